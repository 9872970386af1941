-- Written by a program of this project's session, after the kit's print (a turned copy of its programs). Lean checks it.
import Derived.Test.YtidibjmckgbpbaaQFnGustsx0
import Derived.Test.YtidibjmckgbpbaaQFnGustsx2
import Derived.Test.YtidibjmckgbpbaaQFnGustsx3
import Derived.Test.YtidibjmckgbpbaaQFnGustsx4
namespace Go.Proofs.Ytidibjmckgbpbaa.QFnGusts
open Go.RowKit Go.Proofs.YtidibjmckgbpbaaW.PrintWords Go.Proofs.YtidibjmckgbpbaaW.PrintLast Go.Proofs.YtidibjmckgbpbaaW.PrintMore
attribute [local go_sem] max2_int min2_int max_two min_two max_three min_three max_four min_four   -- for this text's walks alone
set_option linter.unusedVariables false
set_option linter.unusedSimpArgs false

/-! ### impl_FirstGust: function 34 -/
mutual
def impl_FirstGust.j0 : Nat → List (S55) → List Int → List Int → Bool → Option (Int × Int)
 | 0, _, _, _, _ => none
 | k + 1, x0, x1, x2, x28 => if x28 = true then (some (0, 2)) else (impl_FirstGust.l0 k x0 x2 x1 (x1.length : Int) 0)
def impl_FirstGust.l0 : Nat → List (S55) → List Int → List Int → Int → Int → Option (Int × Int)
 | 0, _, _, _, _, _ => none
 | k + 1, x0, x2, x29, x30, x31 => if x31 < x30 then (if 0 ≤ x31 then (if x31 < (x29.length : Int) then ((impl_layerOf.f k x0 (rd x29 x31)).bind fun t155 => (if t155 < 0 then (some (0, 4)) else (if x31 < (x2.length : Int) then (if 0 ≤ t155 then (if t155 < (x0.length : Int) then ((impl_within.f (rd x2 x31) ((rd_T55 x0 t155).f1) ((rd_T55 x0 t155).f2)).bind fun t159 => (if t159 = true then (impl_FirstGust.l0 k x0 x2 x29 x30 (wrap64 (x31 + 1))) else (some (x31, 0)))) else (none)) else (none)) else (none)))) else (none)) else (none)) else (some (0, 4))
end
def impl_FirstGust.f (k : Nat) (l0 : List (S55)) (l1 : List Int) (l2 : List Int) : Option (Int × Int) := (impl_IsProfile.f k l0).bind fun t151 => (if t151 = true then (if (l1.length : Int) = (l2.length : Int) then ((impl_allWithin.f k l1 0 1000000).bind fun t152 => (if t152 = true then ((impl_allWithin.f k l2 (-50000) 50000).bind fun t153 => (impl_FirstGust.j0 k l0 l1 l2 (!t153))) else (impl_FirstGust.j0 k l0 l1 l2 true))) else (impl_FirstGust.j0 k l0 l1 l2 true)) else (some (0, 1)))
theorem impl_FirstGust.mono_l : ∀ k, (∀ y0 y1 y2 y3, LeO (impl_FirstGust.j0 k y0 y1 y2 y3) (impl_FirstGust.j0 (k + 1) y0 y1 y2 y3)) ∧ (∀ y0 y1 y2 y3 y4, LeO (impl_FirstGust.l0 k y0 y1 y2 y3 y4) (impl_FirstGust.l0 (k + 1) y0 y1 y2 y3 y4))
 | 0 => ⟨fun _ _ _ _ r h => by simp [impl_FirstGust.j0] at h, fun _ _ _ _ _ r h => by simp [impl_FirstGust.l0] at h⟩
 | k + 1 => by
  obtain ⟨ih0, ih1⟩ := impl_FirstGust.mono_l k
  refine ⟨?_, ?_⟩
  ·
   intro y0 y1 y2 y3
   unfold impl_FirstGust.j0
   repeat' first
   | (with_reducible exact ih0 _ _ _ _)
   | (with_reducible exact ih1 _ _ _ _ _)
   | (with_reducible exact impl_IsProfile.mono _ _)
   | (with_reducible exact impl_allWithin.mono _ _ _ _)
   | (with_reducible exact impl_layerOf.mono _ _ _)
   | (with_reducible exact LeO.refl _)
   | (with_reducible exact LeO.none _)
   | (with_reducible refine LeO.ite ?_ ?_)
   | (with_reducible refine LeO.bind ?_ (fun _ => ?_))
   | exact ih0 _ _ _ _
   | exact ih1 _ _ _ _ _
   | exact impl_IsProfile.mono _ _
   | exact impl_allWithin.mono _ _ _ _
   | exact impl_layerOf.mono _ _ _
   | exact LeO.none _
   | refine LeO.ite ?_ ?_
   | refine LeO.bind ?_ (fun _ => ?_)
  ·
   intro y0 y1 y2 y3 y4
   unfold impl_FirstGust.l0
   repeat' first
   | (with_reducible exact ih0 _ _ _ _)
   | (with_reducible exact ih1 _ _ _ _ _)
   | (with_reducible exact impl_IsProfile.mono _ _)
   | (with_reducible exact impl_allWithin.mono _ _ _ _)
   | (with_reducible exact impl_layerOf.mono _ _ _)
   | (with_reducible exact LeO.refl _)
   | (with_reducible exact LeO.none _)
   | (with_reducible refine LeO.ite ?_ ?_)
   | (with_reducible refine LeO.bind ?_ (fun _ => ?_))
   | exact ih0 _ _ _ _
   | exact ih1 _ _ _ _ _
   | exact impl_IsProfile.mono _ _
   | exact impl_allWithin.mono _ _ _ _
   | exact impl_layerOf.mono _ _ _
   | exact LeO.none _
   | refine LeO.ite ?_ ?_
   | refine LeO.bind ?_ (fun _ => ?_)
theorem impl_FirstGust.mono : ∀ a0 a1 a2 k, LeO (impl_FirstGust.f k a0 a1 a2) (impl_FirstGust.f (k + 1) a0 a1 a2) := by
 intro a0 a1 a2 k
 obtain ⟨ih0, ih1⟩ := impl_FirstGust.mono_l k
 unfold impl_FirstGust.f
 repeat' first
   | (with_reducible exact ih0 _ _ _ _)
   | (with_reducible exact ih1 _ _ _ _ _)
   | (with_reducible exact impl_IsProfile.mono _ _)
   | (with_reducible exact impl_allWithin.mono _ _ _ _)
   | (with_reducible exact impl_layerOf.mono _ _ _)
   | (with_reducible exact LeO.refl _)
   | (with_reducible exact LeO.none _)
   | (with_reducible refine LeO.ite ?_ ?_)
   | (with_reducible refine LeO.bind ?_ (fun _ => ?_))
   | exact ih0 _ _ _ _
   | exact ih1 _ _ _ _ _
   | exact impl_IsProfile.mono _ _
   | exact impl_allWithin.mono _ _ _ _
   | exact impl_layerOf.mono _ _ _
   | exact LeO.none _
   | refine LeO.ite ?_ ?_
   | refine LeO.bind ?_ (fun _ => ?_)
set_option maxHeartbeats 8000000 in
set_option maxRecDepth 100000 in
theorem impl_FirstGust.calls (k : Nat) (A0 : Option Addr) (c0 : Nat) (l0 : List (S55)) (A1 : Option Addr) (c1 : Nat) (l1 : List Int) (A2 : Option Addr) (c2 : Nat) (l2 : List Int) (r1 : Int) (r2 : Int) (w : World) (hr0 : Kd.C k55 w A0 l0.length l0) (hc0 : l0.length ≤ c0) (hr1 : Kd.C (Kd.int .i64) w A1 l1.length l1) (hc1 : l1.length ≤ c1) (hr2 : Kd.C (Kd.int .i64) w A2 l2.length l2) (hc2 : l2.length ≤ c2) (h : impl_FirstGust.f k l0 l1 l2 = some (r1, r2)) :
  Calls Try.prog 34 #[.slice A0 l0.length c0, .slice A1 l1.length c1, .slice A2 l2.length c2] w fun e w' => e = .returned (.tuple #[.int .i64 r1, .int .i64 r2]) ∧ Below w.heap.size w w' := by
 have HR0 := Aside0.mk hr0
 have HC0 := Aside0.mk hc0
 clear hr0 hc0
 have HR1 := Aside0.mk hr1
 have HC1 := Aside0.mk hc1
 clear hr1 hc1
 have HR2 := Aside0.mk hr2
 have HC2 := Aside0.mk hc2
 clear hr2 hc2
 have HB := Aside0.mk (Below.refl w.heap.size w)
 have H : ((impl_IsProfile.f k l0).bind fun t151 => (if t151 = true then (if (l1.length : Int) = (l2.length : Int) then ((impl_allWithin.f k l1 0 1000000).bind fun t152 => (if t152 = true then ((impl_allWithin.f k l2 (-50000) 50000).bind fun t153 => (impl_FirstGust.j0 k l0 l1 l2 (!t153))) else (impl_FirstGust.j0 k l0 l1 l2 true))) else (impl_FirstGust.j0 k l0 l1 l2 true)) else (some (0, 1)))) = some (r1, r2) := h
 clear h
 replace H := Option.bind_eq_some_iff.mp H
 obtain ⟨t151, A40, H⟩ := H
 replace H : (if t151 = true then (if (l1.length : Int) = (l2.length : Int) then ((impl_allWithin.f k l1 0 1000000).bind fun t152 => (if t152 = true then ((impl_allWithin.f k l2 (-50000) 50000).bind fun t153 => (impl_FirstGust.j0 k l0 l1 l2 (!t153))) else (impl_FirstGust.j0 k l0 l1 l2 true))) else (impl_FirstGust.j0 k l0 l1 l2 true)) else (some (0, 1))) = some (r1, r2) := H
 have A4 := Aside0.mk A40
 clear A40
 by_cases c5 : t151 = true
 ·
  subst c5
  have H1 : (if (l1.length : Int) = (l2.length : Int) then ((impl_allWithin.f k l1 0 1000000).bind fun t152 => (if t152 = true then ((impl_allWithin.f k l2 (-50000) 50000).bind fun t153 => (impl_FirstGust.j0 k l0 l1 l2 (!t153))) else (impl_FirstGust.j0 k l0 l1 l2 true))) else (impl_FirstGust.j0 k l0 l1 l2 true)) = some (r1, r2) := by rw [if_pos rfl] at H; exact H
  clear H
  have H := H1
  clear H1
  have HC6 := Aside0.mk H
  clear H
  go_enter Try.func34, Try.ntmps34
  go_upto_region 3 with (first | (go_at_call 17; (with_reducible refine (impl_IsProfile.calls k _ _ l0 true _ ?side1 ?side2 A4.out).mono ?_); (case side1 => repeat (first | exact HR0.out | (with_reducible first | apply cA | apply cN | apply cD))); (case side2 => exact HC0.out); rintro e w7 ⟨rfl, hb⟩; have n0_ := Aside0.mk (below_step (by repeat (first | (with_reducible first | exact HB.out | apply lA | apply lN | apply lD) | exact HB.out)) hb); clear HB; have HB := n0_; clear n0_; (try clear hb); (try clear hb2); (try clear hk); (try clear hi)))
  repeat (go_quiet (first | (go_at_call 17; (with_reducible refine (impl_IsProfile.calls k _ _ l0 true _ ?side1 ?side2 A4.out).mono ?_); (case side1 => repeat (first | exact HR0.out | (with_reducible first | apply cA | apply cN | apply cD))); (case side2 => exact HC0.out); rintro e w7 ⟨rfl, hb⟩; have n0_ := Aside0.mk (below_step (by repeat (first | (with_reducible first | exact HB.out | apply lA | apply lN | apply lD) | exact HB.out)) hb); clear HB; have HB := n0_; clear n0_; (try clear hb); (try clear hb2); (try clear hk); (try clear hi))); go_upto_region 3 with (first | (go_at_call 17; (with_reducible refine (impl_IsProfile.calls k _ _ l0 true _ ?side1 ?side2 A4.out).mono ?_); (case side1 => repeat (first | exact HR0.out | (with_reducible first | apply cA | apply cN | apply cD))); (case side2 => exact HC0.out); rintro e w7 ⟨rfl, hb⟩; have n0_ := Aside0.mk (below_step (by repeat (first | (with_reducible first | exact HB.out | apply lA | apply lN | apply lD) | exact HB.out)) hb); clear HB; have HB := n0_; clear n0_; (try clear hb); (try clear hb2); (try clear hk); (try clear hi))))
  (try simp only [Act.put, sT, s0, sS])
  go_cut [28] (fun v28 wc => ∃ (kq : Nat) (x28_5 : Bool), v28 = .bool x28_5 ∧ Aside0 (impl_FirstGust.j0 kq l0 l1 l2 x28_5 = some (r1, r2)) ∧ Aside0 (kq ≤ k) ∧ Aside0 (Below w.heap.size w wc))
  case first =>
   have H := HC6.out
   clear HC6
   by_cases c8 : (l1.length : Int) = (l2.length : Int)
   ·
    rw [if_pos c8] at H
    have c8b0 : ((l1.length : Int) == (l2.length : Int)) = true := beq_iff_eq.mpr c8
    have c8b1 : ((l1.length : Int) != (l2.length : Int)) = false := bne_eq_false_iff_eq.mpr c8
    have c8b2 : (l1.length == l2.length) = true := by first | simpa using c8 | (simp at c8 ⊢; omega)
    clear c8
    (first | rw [c8b0] | (simp only [i64_w, i32_w]; rw [c8b0]) | skip)
    replace H := Option.bind_eq_some_iff.mp H
    obtain ⟨t152, A90, H⟩ := H
    replace H : (if t152 = true then ((impl_allWithin.f k l2 (-50000) 50000).bind fun t153 => (impl_FirstGust.j0 k l0 l1 l2 (!t153))) else (impl_FirstGust.j0 k l0 l1 l2 true)) = some (r1, r2) := H
    have A9 := Aside0.mk A90
    clear A90
    by_cases c10 : t152 = true
    ·
     subst c10
     have H1 : ((impl_allWithin.f k l2 (-50000) 50000).bind fun t153 => (impl_FirstGust.j0 k l0 l1 l2 (!t153))) = some (r1, r2) := by rw [if_pos rfl] at H; exact H
     clear H
     have H := H1
     clear H1
     replace H := Option.bind_eq_some_iff.mp H
     obtain ⟨t153, A110, H⟩ := H
     replace H : (impl_FirstGust.j0 k l0 l1 l2 (!t153)) = some (r1, r2) := H
     have A11 := Aside0.mk A110
     clear A110
     have H' := Aside0.mk H
     clear H
     go_wp2_with (first | (go_at_call 59; (with_reducible refine (impl_allWithin.calls k _ _ l1 0 1000000 true _ ?side1 ?side2 A9.out).mono ?_); (case side1 => repeat (first | exact (Kd.C_below HR1.out HB.out) | (with_reducible first | apply cA | apply cN | apply cD))); (case side2 => exact HC1.out); rintro e w' ⟨rfl, ⟨nd, rfl⟩⟩; (try first | exact ⟨rfl, _, World.drewN_drewN _ _ _⟩ | exact ⟨rfl, _, Eq.trans (World.drewN_drewN _ _ _) (congrArg (World.drewN _) (Nat.add_assoc _ _ _))⟩)) | (go_at_call 59; (with_reducible refine (impl_allWithin.calls k _ _ l2 (-50000) 50000 t153 _ ?side1 ?side2 A11.out).mono ?_); (case side1 => repeat (first | exact (Kd.C_below HR2.out (by repeat (first | (with_reducible first | exact HB.out | apply lA | apply lN | apply lD) | exact HB.out))) | (with_reducible first | apply cA | apply cN | apply cD))); (case side2 => exact HC2.out); rintro e w' ⟨rfl, ⟨nd, rfl⟩⟩; (try first | exact ⟨rfl, _, World.drewN_drewN _ _ _⟩ | exact ⟨rfl, _, Eq.trans (World.drewN_drewN _ _ _) (congrArg (World.drewN _) (Nat.add_assoc _ _ _))⟩)))
     repeat (go_quiet (first | (go_at_call 59; (with_reducible refine (impl_allWithin.calls k _ _ l1 0 1000000 true _ ?side1 ?side2 A9.out).mono ?_); (case side1 => repeat (first | exact (Kd.C_below HR1.out HB.out) | (with_reducible first | apply cA | apply cN | apply cD))); (case side2 => exact HC1.out); rintro e w' ⟨rfl, ⟨nd, rfl⟩⟩; (try first | exact ⟨rfl, _, World.drewN_drewN _ _ _⟩ | exact ⟨rfl, _, Eq.trans (World.drewN_drewN _ _ _) (congrArg (World.drewN _) (Nat.add_assoc _ _ _))⟩)) | (go_at_call 59; (with_reducible refine (impl_allWithin.calls k _ _ l2 (-50000) 50000 t153 _ ?side1 ?side2 A11.out).mono ?_); (case side1 => repeat (first | exact (Kd.C_below HR2.out (by repeat (first | (with_reducible first | exact HB.out | apply lA | apply lN | apply lD) | exact HB.out))) | (with_reducible first | apply cA | apply cN | apply cD))); (case side2 => exact HC2.out); rintro e w' ⟨rfl, ⟨nd, rfl⟩⟩; (try first | exact ⟨rfl, _, World.drewN_drewN _ _ _⟩ | exact ⟨rfl, _, Eq.trans (World.drewN_drewN _ _ _) (congrArg (World.drewN _) (Nat.add_assoc _ _ _))⟩))); try go_wp2_with (first | (go_at_call 59; (with_reducible refine (impl_allWithin.calls k _ _ l1 0 1000000 true _ ?side1 ?side2 A9.out).mono ?_); (case side1 => repeat (first | exact (Kd.C_below HR1.out HB.out) | (with_reducible first | apply cA | apply cN | apply cD))); (case side2 => exact HC1.out); rintro e w' ⟨rfl, ⟨nd, rfl⟩⟩; (try first | exact ⟨rfl, _, World.drewN_drewN _ _ _⟩ | exact ⟨rfl, _, Eq.trans (World.drewN_drewN _ _ _) (congrArg (World.drewN _) (Nat.add_assoc _ _ _))⟩)) | (go_at_call 59; (with_reducible refine (impl_allWithin.calls k _ _ l2 (-50000) 50000 t153 _ ?side1 ?side2 A11.out).mono ?_); (case side1 => repeat (first | exact (Kd.C_below HR2.out (by repeat (first | (with_reducible first | exact HB.out | apply lA | apply lN | apply lD) | exact HB.out))) | (with_reducible first | apply cA | apply cN | apply cD))); (case side2 => exact HC2.out); rintro e w' ⟨rfl, ⟨nd, rfl⟩⟩; (try first | exact ⟨rfl, _, World.drewN_drewN _ _ _⟩ | exact ⟨rfl, _, Eq.trans (World.drewN_drewN _ _ _) (congrArg (World.drewN _) (Nat.add_assoc _ _ _))⟩))))
     go_meet
     case rel => exact ⟨_, (!t153), (by first | rfl | (simp; done) | (simp [*]; done)), H', ⟨by first | omega | exact Nat.le_refl _⟩, ⟨by repeat (first | (with_reducible first | exact HB.out | apply lA | apply lN | apply lD) | exact HB.out)⟩⟩
    ·
     replace c10 := Bool.eq_false_iff.mpr c10
     subst c10
     have H1 : (impl_FirstGust.j0 k l0 l1 l2 true) = some (r1, r2) := by rw [if_neg (show ¬ (false = true) by decide)] at H; exact H
     clear H
     have H := H1
     clear H1
     have H' := Aside0.mk H
     clear H
     go_wp2_with (first | (go_at_call 59; (with_reducible refine (impl_allWithin.calls k _ _ l1 0 1000000 false _ ?side1 ?side2 A9.out).mono ?_); (case side1 => repeat (first | exact (Kd.C_below HR1.out HB.out) | (with_reducible first | apply cA | apply cN | apply cD))); (case side2 => exact HC1.out); rintro e w' ⟨rfl, ⟨nd, rfl⟩⟩; (try first | exact ⟨rfl, _, World.drewN_drewN _ _ _⟩ | exact ⟨rfl, _, Eq.trans (World.drewN_drewN _ _ _) (congrArg (World.drewN _) (Nat.add_assoc _ _ _))⟩)))
     repeat (go_quiet (first | (go_at_call 59; (with_reducible refine (impl_allWithin.calls k _ _ l1 0 1000000 false _ ?side1 ?side2 A9.out).mono ?_); (case side1 => repeat (first | exact (Kd.C_below HR1.out HB.out) | (with_reducible first | apply cA | apply cN | apply cD))); (case side2 => exact HC1.out); rintro e w' ⟨rfl, ⟨nd, rfl⟩⟩; (try first | exact ⟨rfl, _, World.drewN_drewN _ _ _⟩ | exact ⟨rfl, _, Eq.trans (World.drewN_drewN _ _ _) (congrArg (World.drewN _) (Nat.add_assoc _ _ _))⟩))); try go_wp2_with (first | (go_at_call 59; (with_reducible refine (impl_allWithin.calls k _ _ l1 0 1000000 false _ ?side1 ?side2 A9.out).mono ?_); (case side1 => repeat (first | exact (Kd.C_below HR1.out HB.out) | (with_reducible first | apply cA | apply cN | apply cD))); (case side2 => exact HC1.out); rintro e w' ⟨rfl, ⟨nd, rfl⟩⟩; (try first | exact ⟨rfl, _, World.drewN_drewN _ _ _⟩ | exact ⟨rfl, _, Eq.trans (World.drewN_drewN _ _ _) (congrArg (World.drewN _) (Nat.add_assoc _ _ _))⟩))))
     go_meet
     case rel => exact ⟨_, (true), (by first | rfl | (simp; done) | (simp [*]; done)), H', ⟨by first | omega | exact Nat.le_refl _⟩, ⟨by repeat (first | (with_reducible first | exact HB.out | apply lA | apply lN | apply lD) | exact HB.out)⟩⟩
   ·
    rw [if_neg c8] at H
    have c8b0 : ((l1.length : Int) == (l2.length : Int)) = false := beq_eq_false_iff_ne.mpr c8
    have c8b1 : ((l1.length : Int) != (l2.length : Int)) = true := bne_iff_ne.mpr c8
    have c8b2 : (l1.length == l2.length) = false := by first | simpa using c8 | (simp at c8 ⊢; omega)
    (first | rw [c8b0] | (simp only [i64_w, i32_w]; rw [c8b0]) | skip)
    have H' := Aside0.mk H
    clear H
    go_wp2
    repeat (go_quiet (fail); try go_wp2)
    go_meet
    case rel => exact ⟨_, (true), (by first | rfl | (simp; done) | (simp [*]; done)), H', ⟨by first | omega | exact Nat.le_refl _⟩, ⟨by repeat (first | (with_reducible first | exact HB.out | apply lA | apply lN | apply lD) | exact HB.out)⟩⟩
  case rest =>
   clear HC6
   try clear c1
   try clear c2
   try clear p2
   try clear c3
   try clear c5
   try clear c8
   try clear c8b0
   try clear c8b1
   try clear c8b2
   try clear c10
   obtain ⟨kq, x28_5, rfl, HA, HJ5, HB⟩ := hcut
   cases kq with
   | zero => exact absurd HA.out (by simp [impl_FirstGust.j0])
   | succ kj5 =>
    have H := HA.out
    clear HA
    simp only [impl_FirstGust.j0] at H
    by_cases c12 : x28_5 = true
    ·
     subst c12
     have H1 : (some (0, 2)) = some (r1, r2) := by rw [if_pos rfl] at H; exact H
     clear H
     have H := H1
     clear H1
     simp only [Option.some.injEq, Prod.mk.injEq] at H
     obtain ⟨rfl, rfl⟩ := H
     go_wp2
     repeat (go_quiet (fail); try go_wp2)
     go_ret2
     exact ⟨by first | rfl | (simp [errW_none, errW_some] <;> rfl) | (simp [*, errW_none, errW_some] <;> rfl), by repeat (first | (with_reducible first | exact HB.out | apply lA | apply lN | apply lD) | exact HB.out)⟩
    ·
     replace c12 := Bool.eq_false_iff.mpr c12
     subst c12
     have H1 : (impl_FirstGust.l0 kj5 l0 l2 l1 (l1.length : Int) 0) = some (r1, r2) := by rw [if_neg (show ¬ (false = true) by decide)] at H; exact H
     clear H
     have H := H1
     clear H1
     have H' := Aside0.mk H
     clear H
     go_wp2
     repeat (go_quiet (fail); try go_wp2)
     go_loopg [31] kj5 (fun kq v31 w' => ∃ (x31_2 : Int), v31 = .int .i64 x31_2 ∧ Aside0 (impl_FirstGust.l0 kq l0 l2 l1 (l1.length : Int) x31_2 = some (r1, r2)) ∧ Aside0 (kq ≤ kj5) ∧ Aside0 (Below w.heap.size w w'))
     case atStart => exact ⟨(0), (by first | rfl | (simp; done) | (simp [*]; done)), H', ⟨Nat.le_refl _⟩, ⟨by repeat (first | (with_reducible first | exact HB.out | apply lA | apply lN | apply lD) | exact HB.out)⟩⟩
     case round =>
      clear H'
      try clear c1
      try clear c2
      try clear p2
      try clear c3
      try clear c5
      try clear c8
      try clear c8b0
      try clear c8b1
      try clear c8b2
      try clear c10
      try clear c12
      try clear p2
      obtain ⟨x31_2, rfl, HA, HK2, HB⟩ := hrel
      cases gk with
      | zero => exact absurd HA.out (by simp [impl_FirstGust.l0])
      | succ k2 =>
       have H := HA.out
       clear HA
       simp only [impl_FirstGust.l0] at H
       by_cases c13 : x31_2 < (l1.length : Int)
       ·
        rw [if_pos c13] at H
        have c13b0 : decide (x31_2 < (l1.length : Int)) = true := decide_eq_true c13
        clear c13
        by_cases c14 : 0 ≤ x31_2
        ·
         rw [if_pos c14] at H
         have c14b0 : decide (0 ≤ x31_2) = true := decide_eq_true c14
         clear c14
         by_cases c15 : x31_2 < (l1.length : Int)
         ·
          rw [if_pos c15] at H
          have c15b0 : decide (x31_2 < (l1.length : Int)) = true := decide_eq_true c15
          clear c15
          replace H := Option.bind_eq_some_iff.mp H
          obtain ⟨t155, A160, H⟩ := H
          replace H : (if t155 < 0 then (some (0, 4)) else (if x31_2 < (l2.length : Int) then (if 0 ≤ t155 then (if t155 < (l0.length : Int) then ((impl_within.f (rd l2 x31_2) ((rd_T55 l0 t155).f1) ((rd_T55 l0 t155).f2)).bind fun t159 => (if t159 = true then (impl_FirstGust.l0 k2 l0 l2 l1 (l1.length : Int) (wrap64 (x31_2 + 1))) else (some (x31_2, 0)))) else (none)) else (none)) else (none))) = some (r1, r2) := H
          have A16 := Aside0.mk A160
          clear A160
          by_cases c17 : t155 < 0
          ·
           rw [if_pos c17] at H
           have c17b0 : decide (t155 < 0) = true := decide_eq_true c17
           clear c17
           simp only [Option.some.injEq, Prod.mk.injEq] at H
           obtain ⟨rfl, rfl⟩ := H
           have p154 : 0 ≤ (x31_2 : Int) := of_decide_eq_true (by with_reducible assumption)
           have q154 : x31_2 < (l1.length : Int) := of_decide_eq_true (by with_reducible assumption)
           obtain ⟨ad154, e154, hx154_0⟩ := Kd.at_int HR1.out x31_2 p154 q154
           cases e154
           replace hx154_0 := cB HB.out hx154_0
           replace p154 := eq_true p154
           replace q154 := eq_true q154
           go_wp2_with (first | (go_at_call 60; (with_reducible refine (impl_layerOf.calls k2 _ _ l0 (rd l1 x31_2) t155 _ ?side1 ?side2 A16.out).mono ?_); (case side1 => repeat (first | exact (Kd.C_below HR0.out HB.out) | (with_reducible first | apply cA | apply cN | apply cD))); (case side2 => exact HC0.out); rintro e w18 ⟨rfl, hb⟩; have n0_ := Aside0.mk (below_step (by repeat (first | (with_reducible first | exact HB.out | apply lA | apply lN | apply lD) | exact HB.out)) hb); clear HB; have HB := n0_; clear n0_; (try clear hb); (try clear hb2); (try clear hk); (try clear hi)))
           repeat (go_quiet (first | (go_at_call 60; (with_reducible refine (impl_layerOf.calls k2 _ _ l0 (rd l1 x31_2) t155 _ ?side1 ?side2 A16.out).mono ?_); (case side1 => repeat (first | exact (Kd.C_below HR0.out HB.out) | (with_reducible first | apply cA | apply cN | apply cD))); (case side2 => exact HC0.out); rintro e w18 ⟨rfl, hb⟩; have n0_ := Aside0.mk (below_step (by repeat (first | (with_reducible first | exact HB.out | apply lA | apply lN | apply lD) | exact HB.out)) hb); clear HB; have HB := n0_; clear n0_; (try clear hb); (try clear hb2); (try clear hk); (try clear hi))); try go_wp2_with (first | (go_at_call 60; (with_reducible refine (impl_layerOf.calls k2 _ _ l0 (rd l1 x31_2) t155 _ ?side1 ?side2 A16.out).mono ?_); (case side1 => repeat (first | exact (Kd.C_below HR0.out HB.out) | (with_reducible first | apply cA | apply cN | apply cD))); (case side2 => exact HC0.out); rintro e w18 ⟨rfl, hb⟩; have n0_ := Aside0.mk (below_step (by repeat (first | (with_reducible first | exact HB.out | apply lA | apply lN | apply lD) | exact HB.out)) hb); clear HB; have HB := n0_; clear n0_; (try clear hb); (try clear hb2); (try clear hk); (try clear hi))))
           go_ret2
           exact ⟨by first | rfl | (simp [errW_none, errW_some] <;> rfl) | (simp [*, errW_none, errW_some] <;> rfl), by repeat (first | (with_reducible first | exact HB.out | apply lA | apply lN | apply lD) | exact HB.out)⟩
          ·
           rw [if_neg c17] at H
           have c17b0 : decide (t155 < 0) = false := decide_eq_false c17
           clear c17
           by_cases c19 : x31_2 < (l2.length : Int)
           ·
            rw [if_pos c19] at H
            have c19b0 : decide (x31_2 < (l2.length : Int)) = true := decide_eq_true c19
            clear c19
            by_cases c20 : 0 ≤ t155
            ·
             rw [if_pos c20] at H
             have c20b0 : decide (0 ≤ t155) = true := decide_eq_true c20
             clear c20
             by_cases c21 : t155 < (l0.length : Int)
             ·
              rw [if_pos c21] at H
              have c21b0 : decide (t155 < (l0.length : Int)) = true := decide_eq_true c21
              clear c21
              replace H := Option.bind_eq_some_iff.mp H
              obtain ⟨t159, A220, H⟩ := H
              replace H : (if t159 = true then (impl_FirstGust.l0 k2 l0 l2 l1 (l1.length : Int) (wrap64 (x31_2 + 1))) else (some (x31_2, 0))) = some (r1, r2) := H
              have A22 := Aside0.mk A220
              clear A220
              by_cases c23 : t159 = true
              ·
               subst c23
               have H1 : (impl_FirstGust.l0 k2 l0 l2 l1 (l1.length : Int) (wrap64 (x31_2 + 1))) = some (r1, r2) := by rw [if_pos rfl] at H; exact H
               clear H
               have H := H1
               clear H1
               have H' := Aside0.mk H
               clear H
               have p154 : 0 ≤ (x31_2 : Int) := of_decide_eq_true (by with_reducible assumption)
               have q154 : x31_2 < (l1.length : Int) := of_decide_eq_true (by with_reducible assumption)
               obtain ⟨ad154, e154, hx154_0⟩ := Kd.at_int HR1.out x31_2 p154 q154
               cases e154
               replace hx154_0 := cB HB.out hx154_0
               replace p154 := eq_true p154
               replace q154 := eq_true q154
               go_wp2_with (first | (go_at_call 60; (with_reducible refine (impl_layerOf.calls k2 _ _ l0 (rd l1 x31_2) t155 _ ?side1 ?side2 A16.out).mono ?_); (case side1 => repeat (first | exact (Kd.C_below HR0.out HB.out) | (with_reducible first | apply cA | apply cN | apply cD))); (case side2 => exact HC0.out); rintro e w24 ⟨rfl, hb⟩; have n0_ := Aside0.mk (below_step (by repeat (first | (with_reducible first | exact HB.out | apply lA | apply lN | apply lD) | exact HB.out)) hb); clear HB; have HB := n0_; clear n0_; (try clear hb); (try clear hb2); (try clear hk); (try clear hi); have p156 : 0 ≤ (x31_2 : Int) := of_decide_eq_true (by with_reducible assumption); have q156 : x31_2 < (l2.length : Int) := of_decide_eq_true (by with_reducible assumption); obtain ⟨ad156, e156, hx156_0⟩ := Kd.at_int HR2.out x31_2 p156 q156; cases e156; replace hx156_0 := cB HB.out hx156_0; replace p156 := eq_true p156; replace q156 := eq_true q156; have p157 : 0 ≤ (t155 : Int) := of_decide_eq_true (by with_reducible assumption); have q157 : t155 < (l0.length : Int) := of_decide_eq_true (by with_reducible assumption); obtain ⟨ad157, e157, hx157_0, hx157_1, hx157_2⟩ := at_T55 HR0.out t155 p157 q157; cases e157; replace hx157_0 := cB HB.out hx157_0; replace hx157_1 := cB HB.out hx157_1; replace hx157_2 := cB HB.out hx157_2; replace p157 := eq_true p157; replace q157 := eq_true q157; have p158 : 0 ≤ (t155 : Int) := of_decide_eq_true (by with_reducible assumption); have q158 : t155 < (l0.length : Int) := of_decide_eq_true (by with_reducible assumption); obtain ⟨ad158, e158, hx158_0, hx158_1, hx158_2⟩ := at_T55 HR0.out t155 p158 q158; obtain rfl : ad157 = ad158 := (by injection e158); replace hx158_0 := cB HB.out hx158_0; replace hx158_1 := cB HB.out hx158_1; replace hx158_2 := cB HB.out hx158_2; replace p158 := eq_true p158; replace q158 := eq_true q158) | (go_at_call 51; (with_reducible refine (impl_within.calls (rd l2 x31_2) ((rd_T55 l0 t155).f1) ((rd_T55 l0 t155).f2) true _ A22.out).mono ?_); rintro e w' ⟨rfl, ⟨nd, rfl⟩⟩; (try first | exact ⟨rfl, _, World.drewN_drewN _ _ _⟩ | exact ⟨rfl, _, Eq.trans (World.drewN_drewN _ _ _) (congrArg (World.drewN _) (Nat.add_assoc _ _ _))⟩)))
               repeat (go_quiet (first | (go_at_call 60; (with_reducible refine (impl_layerOf.calls k2 _ _ l0 (rd l1 x31_2) t155 _ ?side1 ?side2 A16.out).mono ?_); (case side1 => repeat (first | exact (Kd.C_below HR0.out HB.out) | (with_reducible first | apply cA | apply cN | apply cD))); (case side2 => exact HC0.out); rintro e w24 ⟨rfl, hb⟩; have n0_ := Aside0.mk (below_step (by repeat (first | (with_reducible first | exact HB.out | apply lA | apply lN | apply lD) | exact HB.out)) hb); clear HB; have HB := n0_; clear n0_; (try clear hb); (try clear hb2); (try clear hk); (try clear hi); have p156 : 0 ≤ (x31_2 : Int) := of_decide_eq_true (by with_reducible assumption); have q156 : x31_2 < (l2.length : Int) := of_decide_eq_true (by with_reducible assumption); obtain ⟨ad156, e156, hx156_0⟩ := Kd.at_int HR2.out x31_2 p156 q156; cases e156; replace hx156_0 := cB HB.out hx156_0; replace p156 := eq_true p156; replace q156 := eq_true q156; have p157 : 0 ≤ (t155 : Int) := of_decide_eq_true (by with_reducible assumption); have q157 : t155 < (l0.length : Int) := of_decide_eq_true (by with_reducible assumption); obtain ⟨ad157, e157, hx157_0, hx157_1, hx157_2⟩ := at_T55 HR0.out t155 p157 q157; cases e157; replace hx157_0 := cB HB.out hx157_0; replace hx157_1 := cB HB.out hx157_1; replace hx157_2 := cB HB.out hx157_2; replace p157 := eq_true p157; replace q157 := eq_true q157; have p158 : 0 ≤ (t155 : Int) := of_decide_eq_true (by with_reducible assumption); have q158 : t155 < (l0.length : Int) := of_decide_eq_true (by with_reducible assumption); obtain ⟨ad158, e158, hx158_0, hx158_1, hx158_2⟩ := at_T55 HR0.out t155 p158 q158; obtain rfl : ad157 = ad158 := (by injection e158); replace hx158_0 := cB HB.out hx158_0; replace hx158_1 := cB HB.out hx158_1; replace hx158_2 := cB HB.out hx158_2; replace p158 := eq_true p158; replace q158 := eq_true q158) | (go_at_call 51; (with_reducible refine (impl_within.calls (rd l2 x31_2) ((rd_T55 l0 t155).f1) ((rd_T55 l0 t155).f2) true _ A22.out).mono ?_); rintro e w' ⟨rfl, ⟨nd, rfl⟩⟩; (try first | exact ⟨rfl, _, World.drewN_drewN _ _ _⟩ | exact ⟨rfl, _, Eq.trans (World.drewN_drewN _ _ _) (congrArg (World.drewN _) (Nat.add_assoc _ _ _))⟩))); try go_wp2_with (first | (go_at_call 60; (with_reducible refine (impl_layerOf.calls k2 _ _ l0 (rd l1 x31_2) t155 _ ?side1 ?side2 A16.out).mono ?_); (case side1 => repeat (first | exact (Kd.C_below HR0.out HB.out) | (with_reducible first | apply cA | apply cN | apply cD))); (case side2 => exact HC0.out); rintro e w24 ⟨rfl, hb⟩; have n0_ := Aside0.mk (below_step (by repeat (first | (with_reducible first | exact HB.out | apply lA | apply lN | apply lD) | exact HB.out)) hb); clear HB; have HB := n0_; clear n0_; (try clear hb); (try clear hb2); (try clear hk); (try clear hi); have p156 : 0 ≤ (x31_2 : Int) := of_decide_eq_true (by with_reducible assumption); have q156 : x31_2 < (l2.length : Int) := of_decide_eq_true (by with_reducible assumption); obtain ⟨ad156, e156, hx156_0⟩ := Kd.at_int HR2.out x31_2 p156 q156; cases e156; replace hx156_0 := cB HB.out hx156_0; replace p156 := eq_true p156; replace q156 := eq_true q156; have p157 : 0 ≤ (t155 : Int) := of_decide_eq_true (by with_reducible assumption); have q157 : t155 < (l0.length : Int) := of_decide_eq_true (by with_reducible assumption); obtain ⟨ad157, e157, hx157_0, hx157_1, hx157_2⟩ := at_T55 HR0.out t155 p157 q157; cases e157; replace hx157_0 := cB HB.out hx157_0; replace hx157_1 := cB HB.out hx157_1; replace hx157_2 := cB HB.out hx157_2; replace p157 := eq_true p157; replace q157 := eq_true q157; have p158 : 0 ≤ (t155 : Int) := of_decide_eq_true (by with_reducible assumption); have q158 : t155 < (l0.length : Int) := of_decide_eq_true (by with_reducible assumption); obtain ⟨ad158, e158, hx158_0, hx158_1, hx158_2⟩ := at_T55 HR0.out t155 p158 q158; obtain rfl : ad157 = ad158 := (by injection e158); replace hx158_0 := cB HB.out hx158_0; replace hx158_1 := cB HB.out hx158_1; replace hx158_2 := cB HB.out hx158_2; replace p158 := eq_true p158; replace q158 := eq_true q158) | (go_at_call 51; (with_reducible refine (impl_within.calls (rd l2 x31_2) ((rd_T55 l0 t155).f1) ((rd_T55 l0 t155).f2) true _ A22.out).mono ?_); rintro e w' ⟨rfl, ⟨nd, rfl⟩⟩; (try first | exact ⟨rfl, _, World.drewN_drewN _ _ _⟩ | exact ⟨rfl, _, Eq.trans (World.drewN_drewN _ _ _) (congrArg (World.drewN _) (Nat.add_assoc _ _ _))⟩))))
               go_roundg k2
               case measure => have := HJ5.out; have := HK2.out; omega
               case rel => exact ⟨(wrap64 (x31_2 + 1)), (by first | rfl | (simp; done) | (simp [*]; done)), H', ⟨by have := HJ5.out; have := HK2.out; omega⟩, ⟨by repeat (first | (with_reducible first | exact HB.out | apply lA | apply lN | apply lD) | exact HB.out)⟩⟩
              ·
               replace c23 := Bool.eq_false_iff.mpr c23
               subst c23
               have H1 : (some (x31_2, 0)) = some (r1, r2) := by rw [if_neg (show ¬ (false = true) by decide)] at H; exact H
               clear H
               have H := H1
               clear H1
               simp only [Option.some.injEq, Prod.mk.injEq] at H
               obtain ⟨rfl, rfl⟩ := H
               have p154 : 0 ≤ (x31_2 : Int) := of_decide_eq_true (by with_reducible assumption)
               have q154 : x31_2 < (l1.length : Int) := of_decide_eq_true (by with_reducible assumption)
               obtain ⟨ad154, e154, hx154_0⟩ := Kd.at_int HR1.out x31_2 p154 q154
               cases e154
               replace hx154_0 := cB HB.out hx154_0
               replace p154 := eq_true p154
               replace q154 := eq_true q154
               go_wp2_with (first | (go_at_call 60; (with_reducible refine (impl_layerOf.calls k2 _ _ l0 (rd l1 x31_2) t155 _ ?side1 ?side2 A16.out).mono ?_); (case side1 => repeat (first | exact (Kd.C_below HR0.out HB.out) | (with_reducible first | apply cA | apply cN | apply cD))); (case side2 => exact HC0.out); rintro e w25 ⟨rfl, hb⟩; have n0_ := Aside0.mk (below_step (by repeat (first | (with_reducible first | exact HB.out | apply lA | apply lN | apply lD) | exact HB.out)) hb); clear HB; have HB := n0_; clear n0_; (try clear hb); (try clear hb2); (try clear hk); (try clear hi); have p156 : 0 ≤ (x31_2 : Int) := of_decide_eq_true (by with_reducible assumption); have q156 : x31_2 < (l2.length : Int) := of_decide_eq_true (by with_reducible assumption); obtain ⟨ad156, e156, hx156_0⟩ := Kd.at_int HR2.out x31_2 p156 q156; cases e156; replace hx156_0 := cB HB.out hx156_0; replace p156 := eq_true p156; replace q156 := eq_true q156; have p157 : 0 ≤ (t155 : Int) := of_decide_eq_true (by with_reducible assumption); have q157 : t155 < (l0.length : Int) := of_decide_eq_true (by with_reducible assumption); obtain ⟨ad157, e157, hx157_0, hx157_1, hx157_2⟩ := at_T55 HR0.out t155 p157 q157; cases e157; replace hx157_0 := cB HB.out hx157_0; replace hx157_1 := cB HB.out hx157_1; replace hx157_2 := cB HB.out hx157_2; replace p157 := eq_true p157; replace q157 := eq_true q157; have p158 : 0 ≤ (t155 : Int) := of_decide_eq_true (by with_reducible assumption); have q158 : t155 < (l0.length : Int) := of_decide_eq_true (by with_reducible assumption); obtain ⟨ad158, e158, hx158_0, hx158_1, hx158_2⟩ := at_T55 HR0.out t155 p158 q158; obtain rfl : ad157 = ad158 := (by injection e158); replace hx158_0 := cB HB.out hx158_0; replace hx158_1 := cB HB.out hx158_1; replace hx158_2 := cB HB.out hx158_2; replace p158 := eq_true p158; replace q158 := eq_true q158) | (go_at_call 51; (with_reducible refine (impl_within.calls (rd l2 x31_2) ((rd_T55 l0 t155).f1) ((rd_T55 l0 t155).f2) false _ A22.out).mono ?_); rintro e w' ⟨rfl, ⟨nd, rfl⟩⟩; (try first | exact ⟨rfl, _, World.drewN_drewN _ _ _⟩ | exact ⟨rfl, _, Eq.trans (World.drewN_drewN _ _ _) (congrArg (World.drewN _) (Nat.add_assoc _ _ _))⟩)))
               repeat (go_quiet (first | (go_at_call 60; (with_reducible refine (impl_layerOf.calls k2 _ _ l0 (rd l1 x31_2) t155 _ ?side1 ?side2 A16.out).mono ?_); (case side1 => repeat (first | exact (Kd.C_below HR0.out HB.out) | (with_reducible first | apply cA | apply cN | apply cD))); (case side2 => exact HC0.out); rintro e w25 ⟨rfl, hb⟩; have n0_ := Aside0.mk (below_step (by repeat (first | (with_reducible first | exact HB.out | apply lA | apply lN | apply lD) | exact HB.out)) hb); clear HB; have HB := n0_; clear n0_; (try clear hb); (try clear hb2); (try clear hk); (try clear hi); have p156 : 0 ≤ (x31_2 : Int) := of_decide_eq_true (by with_reducible assumption); have q156 : x31_2 < (l2.length : Int) := of_decide_eq_true (by with_reducible assumption); obtain ⟨ad156, e156, hx156_0⟩ := Kd.at_int HR2.out x31_2 p156 q156; cases e156; replace hx156_0 := cB HB.out hx156_0; replace p156 := eq_true p156; replace q156 := eq_true q156; have p157 : 0 ≤ (t155 : Int) := of_decide_eq_true (by with_reducible assumption); have q157 : t155 < (l0.length : Int) := of_decide_eq_true (by with_reducible assumption); obtain ⟨ad157, e157, hx157_0, hx157_1, hx157_2⟩ := at_T55 HR0.out t155 p157 q157; cases e157; replace hx157_0 := cB HB.out hx157_0; replace hx157_1 := cB HB.out hx157_1; replace hx157_2 := cB HB.out hx157_2; replace p157 := eq_true p157; replace q157 := eq_true q157; have p158 : 0 ≤ (t155 : Int) := of_decide_eq_true (by with_reducible assumption); have q158 : t155 < (l0.length : Int) := of_decide_eq_true (by with_reducible assumption); obtain ⟨ad158, e158, hx158_0, hx158_1, hx158_2⟩ := at_T55 HR0.out t155 p158 q158; obtain rfl : ad157 = ad158 := (by injection e158); replace hx158_0 := cB HB.out hx158_0; replace hx158_1 := cB HB.out hx158_1; replace hx158_2 := cB HB.out hx158_2; replace p158 := eq_true p158; replace q158 := eq_true q158) | (go_at_call 51; (with_reducible refine (impl_within.calls (rd l2 x31_2) ((rd_T55 l0 t155).f1) ((rd_T55 l0 t155).f2) false _ A22.out).mono ?_); rintro e w' ⟨rfl, ⟨nd, rfl⟩⟩; (try first | exact ⟨rfl, _, World.drewN_drewN _ _ _⟩ | exact ⟨rfl, _, Eq.trans (World.drewN_drewN _ _ _) (congrArg (World.drewN _) (Nat.add_assoc _ _ _))⟩))); try go_wp2_with (first | (go_at_call 60; (with_reducible refine (impl_layerOf.calls k2 _ _ l0 (rd l1 x31_2) t155 _ ?side1 ?side2 A16.out).mono ?_); (case side1 => repeat (first | exact (Kd.C_below HR0.out HB.out) | (with_reducible first | apply cA | apply cN | apply cD))); (case side2 => exact HC0.out); rintro e w25 ⟨rfl, hb⟩; have n0_ := Aside0.mk (below_step (by repeat (first | (with_reducible first | exact HB.out | apply lA | apply lN | apply lD) | exact HB.out)) hb); clear HB; have HB := n0_; clear n0_; (try clear hb); (try clear hb2); (try clear hk); (try clear hi); have p156 : 0 ≤ (x31_2 : Int) := of_decide_eq_true (by with_reducible assumption); have q156 : x31_2 < (l2.length : Int) := of_decide_eq_true (by with_reducible assumption); obtain ⟨ad156, e156, hx156_0⟩ := Kd.at_int HR2.out x31_2 p156 q156; cases e156; replace hx156_0 := cB HB.out hx156_0; replace p156 := eq_true p156; replace q156 := eq_true q156; have p157 : 0 ≤ (t155 : Int) := of_decide_eq_true (by with_reducible assumption); have q157 : t155 < (l0.length : Int) := of_decide_eq_true (by with_reducible assumption); obtain ⟨ad157, e157, hx157_0, hx157_1, hx157_2⟩ := at_T55 HR0.out t155 p157 q157; cases e157; replace hx157_0 := cB HB.out hx157_0; replace hx157_1 := cB HB.out hx157_1; replace hx157_2 := cB HB.out hx157_2; replace p157 := eq_true p157; replace q157 := eq_true q157; have p158 : 0 ≤ (t155 : Int) := of_decide_eq_true (by with_reducible assumption); have q158 : t155 < (l0.length : Int) := of_decide_eq_true (by with_reducible assumption); obtain ⟨ad158, e158, hx158_0, hx158_1, hx158_2⟩ := at_T55 HR0.out t155 p158 q158; obtain rfl : ad157 = ad158 := (by injection e158); replace hx158_0 := cB HB.out hx158_0; replace hx158_1 := cB HB.out hx158_1; replace hx158_2 := cB HB.out hx158_2; replace p158 := eq_true p158; replace q158 := eq_true q158) | (go_at_call 51; (with_reducible refine (impl_within.calls (rd l2 x31_2) ((rd_T55 l0 t155).f1) ((rd_T55 l0 t155).f2) false _ A22.out).mono ?_); rintro e w' ⟨rfl, ⟨nd, rfl⟩⟩; (try first | exact ⟨rfl, _, World.drewN_drewN _ _ _⟩ | exact ⟨rfl, _, Eq.trans (World.drewN_drewN _ _ _) (congrArg (World.drewN _) (Nat.add_assoc _ _ _))⟩))))
               go_ret2
               exact ⟨by first | rfl | (simp [errW_none, errW_some] <;> rfl) | (simp [*, errW_none, errW_some] <;> rfl), by repeat (first | (with_reducible first | exact HB.out | apply lA | apply lN | apply lD) | exact HB.out)⟩
             ·
              rw [if_neg c21] at H
              exact absurd H (by simp)
            ·
             rw [if_neg c20] at H
             exact absurd H (by simp)
           ·
            rw [if_neg c19] at H
            exact absurd H (by simp)
         ·
          rw [if_neg c15] at H
          exact absurd H (by simp)
        ·
         rw [if_neg c14] at H
         exact absurd H (by simp)
       ·
        rw [if_neg c13] at H
        have c13b0 : decide (x31_2 < (l1.length : Int)) = false := decide_eq_false c13
        clear c13
        simp only [Option.some.injEq, Prod.mk.injEq] at H
        obtain ⟨rfl, rfl⟩ := H
        go_wp2
        repeat (go_quiet (fail); try go_wp2)
        go_ret2
        exact ⟨by first | rfl | (simp [errW_none, errW_some] <;> rfl) | (simp [*, errW_none, errW_some] <;> rfl), by repeat (first | (with_reducible first | exact HB.out | apply lA | apply lN | apply lD) | exact HB.out)⟩
 ·
  replace c5 := Bool.eq_false_iff.mpr c5
  subst c5
  have H1 : (some (0, 1)) = some (r1, r2) := by rw [if_neg (show ¬ (false = true) by decide)] at H; exact H
  clear H
  have H := H1
  clear H1
  simp only [Option.some.injEq, Prod.mk.injEq] at H
  obtain ⟨rfl, rfl⟩ := H
  go_enter Try.func34, Try.ntmps34
  go_wp2_with (first | (go_at_call 17; (with_reducible refine (impl_IsProfile.calls k _ _ l0 false _ ?side1 ?side2 A4.out).mono ?_); (case side1 => repeat (first | exact HR0.out | (with_reducible first | apply cA | apply cN | apply cD))); (case side2 => exact HC0.out); rintro e w26 ⟨rfl, hb⟩; have n0_ := Aside0.mk (below_step (by repeat (first | (with_reducible first | exact HB.out | apply lA | apply lN | apply lD) | exact HB.out)) hb); clear HB; have HB := n0_; clear n0_; (try clear hb); (try clear hb2); (try clear hk); (try clear hi)))
  repeat (go_quiet (first | (go_at_call 17; (with_reducible refine (impl_IsProfile.calls k _ _ l0 false _ ?side1 ?side2 A4.out).mono ?_); (case side1 => repeat (first | exact HR0.out | (with_reducible first | apply cA | apply cN | apply cD))); (case side2 => exact HC0.out); rintro e w26 ⟨rfl, hb⟩; have n0_ := Aside0.mk (below_step (by repeat (first | (with_reducible first | exact HB.out | apply lA | apply lN | apply lD) | exact HB.out)) hb); clear HB; have HB := n0_; clear n0_; (try clear hb); (try clear hb2); (try clear hk); (try clear hi))); try go_wp2_with (first | (go_at_call 17; (with_reducible refine (impl_IsProfile.calls k _ _ l0 false _ ?side1 ?side2 A4.out).mono ?_); (case side1 => repeat (first | exact HR0.out | (with_reducible first | apply cA | apply cN | apply cD))); (case side2 => exact HC0.out); rintro e w26 ⟨rfl, hb⟩; have n0_ := Aside0.mk (below_step (by repeat (first | (with_reducible first | exact HB.out | apply lA | apply lN | apply lD) | exact HB.out)) hb); clear HB; have HB := n0_; clear n0_; (try clear hb); (try clear hb2); (try clear hk); (try clear hi))))
  go_ret2
  exact ⟨by first | rfl | (simp [errW_none, errW_some] <;> rfl) | (simp [*, errW_none, errW_some] <;> rfl), by repeat (first | (with_reducible first | exact HB.out | apply lA | apply lN | apply lD) | exact HB.out)⟩

/-! ### spec_l05Code: function 53 -/
def spec_l05Code.f (k : Nat) (l0 : List (S55)) (a1 : Int) : Option (Int) := (spec_IsProfile.f k l0).bind fun t160 => (if t160 = true then ((spec_l01In.f a1 0 1000000).bind fun t161 => (if t161 = true then ((spec_l05Find.f k l0 a1).bind fun t162 => (if t162 < 0 then (some 4) else (some 0))) else (some 2))) else (some 1))
theorem spec_l05Code.mono : ∀ a0 a1 k, LeO (spec_l05Code.f k a0 a1) (spec_l05Code.f (k + 1) a0 a1) := by
 intro a0 a1 k
 unfold spec_l05Code.f
 repeat' first
   | (with_reducible exact spec_IsProfile.mono _ _)
   | (with_reducible exact spec_l05Find.mono _ _ _)
   | (with_reducible exact LeO.refl _)
   | (with_reducible exact LeO.none _)
   | (with_reducible refine LeO.ite ?_ ?_)
   | (with_reducible refine LeO.bind ?_ (fun _ => ?_))
   | exact spec_IsProfile.mono _ _
   | exact spec_l05Find.mono _ _ _
   | exact LeO.none _
   | refine LeO.ite ?_ ?_
   | refine LeO.bind ?_ (fun _ => ?_)
set_option maxHeartbeats 8000000 in
set_option maxRecDepth 100000 in
theorem spec_l05Code.calls (k : Nat) (A0 : Option Addr) (c0 : Nat) (l0 : List (S55)) (a1 : Int) (r : Int) (w : World) (hr0 : Kd.C k55 w A0 l0.length l0) (hc0 : l0.length ≤ c0) (h : spec_l05Code.f k l0 a1 = some r) :
  Calls Try.prog 53 #[.slice A0 l0.length c0, .int .i64 a1] w fun e w' => e = .returned (.int .i64 r) ∧ Below w.heap.size w w' := by
 have HR0 := Aside0.mk hr0
 have HC0 := Aside0.mk hc0
 clear hr0 hc0
 have HB := Aside0.mk (Below.refl w.heap.size w)
 have H : ((spec_IsProfile.f k l0).bind fun t160 => (if t160 = true then ((spec_l01In.f a1 0 1000000).bind fun t161 => (if t161 = true then ((spec_l05Find.f k l0 a1).bind fun t162 => (if t162 < 0 then (some 4) else (some 0))) else (some 2))) else (some 1))) = some r := h
 clear h
 replace H := Option.bind_eq_some_iff.mp H
 obtain ⟨t160, A30, H⟩ := H
 replace H : (if t160 = true then ((spec_l01In.f a1 0 1000000).bind fun t161 => (if t161 = true then ((spec_l05Find.f k l0 a1).bind fun t162 => (if t162 < 0 then (some 4) else (some 0))) else (some 2))) else (some 1)) = some r := H
 have A3 := Aside0.mk A30
 clear A30
 by_cases c4 : t160 = true
 ·
  subst c4
  have H1 : ((spec_l01In.f a1 0 1000000).bind fun t161 => (if t161 = true then ((spec_l05Find.f k l0 a1).bind fun t162 => (if t162 < 0 then (some 4) else (some 0))) else (some 2))) = some r := by rw [if_pos rfl] at H; exact H
  clear H
  have H := H1
  clear H1
  replace H := Option.bind_eq_some_iff.mp H
  obtain ⟨t161, A50, H⟩ := H
  replace H : (if t161 = true then ((spec_l05Find.f k l0 a1).bind fun t162 => (if t162 < 0 then (some 4) else (some 0))) else (some 2)) = some r := H
  have A5 := Aside0.mk A50
  clear A50
  by_cases c6 : t161 = true
  ·
   subst c6
   have H1 : ((spec_l05Find.f k l0 a1).bind fun t162 => (if t162 < 0 then (some 4) else (some 0))) = some r := by rw [if_pos rfl] at H; exact H
   clear H
   have H := H1
   clear H1
   replace H := Option.bind_eq_some_iff.mp H
   obtain ⟨t162, A70, H⟩ := H
   replace H : (if t162 < 0 then (some 4) else (some 0)) = some r := H
   have A7 := Aside0.mk A70
   clear A70
   by_cases c8 : t162 < 0
   ·
    rw [if_pos c8] at H
    have c8b0 : decide (t162 < 0) = true := decide_eq_true c8
    clear c8
    obtain rfl := Option.some.inj H
    simp only [Option.some.injEq, Prod.mk.injEq] at H
    obtain ⟨rfl⟩ := H
    go_enter Try.func53, Try.ntmps53
    go_wp2_with (first | ((with_reducible refine gate_callee (f := 15) rfl ?_); refine goesL_ (some 7) rfl rfl Try.func15 (by kernel_rfl) rfl #[.slice A0 l0.length c0] rfl (by (try simp only [List.map_toArray, List.map_cons, List.map_nil]); first | done | rfl | (go_simp; done) | simp) ?_; (with_reducible refine (spec_IsProfile.calls k _ _ l0 true _ ?side1 ?side2 A3.out).mono ?_); (case side1 => repeat (first | exact HR0.out | (with_reducible first | apply cA | apply cN | apply cD))); (case side2 => exact HC0.out); rintro e w9 ⟨rfl, hb⟩; refine ⟨_, rfl, ?_⟩; have n0_ := Aside0.mk (below_step (by repeat (first | (with_reducible first | exact HB.out | apply lA | apply lN | apply lD) | exact HB.out)) hb); clear HB; have HB := n0_; clear n0_; (try clear hb); (try clear hb2); (try clear hk); (try clear hi)) | ((with_reducible refine gate_callee (f := 47) rfl ?_); refine goesL_ (some 11) rfl rfl Try.func47 (by kernel_rfl) rfl #[.int .i64 a1, .int .i64 0, .int .i64 1000000] rfl (by (try simp only [List.map_toArray, List.map_cons, List.map_nil]); first | done | rfl | (go_simp; done) | simp) ?_; (with_reducible refine (spec_l01In.calls a1 0 1000000 true _ A5.out).mono ?_); rintro e w' ⟨rfl, ⟨nd, rfl⟩⟩; refine ⟨_, rfl, ?_⟩) | ((with_reducible refine gate_callee (f := 54) rfl ?_); refine goesL_ (some 16) rfl rfl Try.func54 (by kernel_rfl) rfl #[.slice A0 l0.length c0, .int .i64 a1] rfl (by (try simp only [List.map_toArray, List.map_cons, List.map_nil]); first | done | rfl | (go_simp; done) | simp) ?_; (with_reducible refine (spec_l05Find.calls k _ _ l0 a1 t162 _ ?side1 ?side2 A7.out).mono ?_); (case side1 => repeat (first | exact (Kd.C_below HR0.out (by repeat (first | (with_reducible first | exact HB.out | apply lA | apply lN | apply lD) | exact HB.out))) | (with_reducible first | apply cA | apply cN | apply cD))); (case side2 => exact HC0.out); rintro e w' ⟨rfl, ⟨nd, rfl⟩⟩; refine ⟨_, rfl, ?_⟩))
    go_ret
    exact ⟨by first | rfl | (simp [errW_none, errW_some] <;> rfl) | (simp [*, errW_none, errW_some] <;> rfl), by repeat (first | (with_reducible first | exact HB.out | apply lA | apply lN | apply lD) | exact HB.out)⟩
   ·
    rw [if_neg c8] at H
    have c8b0 : decide (t162 < 0) = false := decide_eq_false c8
    clear c8
    obtain rfl := Option.some.inj H
    simp only [Option.some.injEq, Prod.mk.injEq] at H
    obtain ⟨rfl⟩ := H
    go_enter Try.func53, Try.ntmps53
    go_wp2_with (first | ((with_reducible refine gate_callee (f := 15) rfl ?_); refine goesL_ (some 7) rfl rfl Try.func15 (by kernel_rfl) rfl #[.slice A0 l0.length c0] rfl (by (try simp only [List.map_toArray, List.map_cons, List.map_nil]); first | done | rfl | (go_simp; done) | simp) ?_; (with_reducible refine (spec_IsProfile.calls k _ _ l0 true _ ?side1 ?side2 A3.out).mono ?_); (case side1 => repeat (first | exact HR0.out | (with_reducible first | apply cA | apply cN | apply cD))); (case side2 => exact HC0.out); rintro e w10 ⟨rfl, hb⟩; refine ⟨_, rfl, ?_⟩; have n0_ := Aside0.mk (below_step (by repeat (first | (with_reducible first | exact HB.out | apply lA | apply lN | apply lD) | exact HB.out)) hb); clear HB; have HB := n0_; clear n0_; (try clear hb); (try clear hb2); (try clear hk); (try clear hi)) | ((with_reducible refine gate_callee (f := 47) rfl ?_); refine goesL_ (some 11) rfl rfl Try.func47 (by kernel_rfl) rfl #[.int .i64 a1, .int .i64 0, .int .i64 1000000] rfl (by (try simp only [List.map_toArray, List.map_cons, List.map_nil]); first | done | rfl | (go_simp; done) | simp) ?_; (with_reducible refine (spec_l01In.calls a1 0 1000000 true _ A5.out).mono ?_); rintro e w' ⟨rfl, ⟨nd, rfl⟩⟩; refine ⟨_, rfl, ?_⟩) | ((with_reducible refine gate_callee (f := 54) rfl ?_); refine goesL_ (some 16) rfl rfl Try.func54 (by kernel_rfl) rfl #[.slice A0 l0.length c0, .int .i64 a1] rfl (by (try simp only [List.map_toArray, List.map_cons, List.map_nil]); first | done | rfl | (go_simp; done) | simp) ?_; (with_reducible refine (spec_l05Find.calls k _ _ l0 a1 t162 _ ?side1 ?side2 A7.out).mono ?_); (case side1 => repeat (first | exact (Kd.C_below HR0.out (by repeat (first | (with_reducible first | exact HB.out | apply lA | apply lN | apply lD) | exact HB.out))) | (with_reducible first | apply cA | apply cN | apply cD))); (case side2 => exact HC0.out); rintro e w' ⟨rfl, ⟨nd, rfl⟩⟩; refine ⟨_, rfl, ?_⟩))
    go_ret
    exact ⟨by first | rfl | (simp [errW_none, errW_some] <;> rfl) | (simp [*, errW_none, errW_some] <;> rfl), by repeat (first | (with_reducible first | exact HB.out | apply lA | apply lN | apply lD) | exact HB.out)⟩
  ·
   replace c6 := Bool.eq_false_iff.mpr c6
   subst c6
   have H1 : (some 2) = some r := by rw [if_neg (show ¬ (false = true) by decide)] at H; exact H
   clear H
   have H := H1
   clear H1
   obtain rfl := Option.some.inj H
   simp only [Option.some.injEq, Prod.mk.injEq] at H
   obtain ⟨rfl⟩ := H
   go_enter Try.func53, Try.ntmps53
   go_wp2_with (first | ((with_reducible refine gate_callee (f := 15) rfl ?_); refine goesL_ (some 7) rfl rfl Try.func15 (by kernel_rfl) rfl #[.slice A0 l0.length c0] rfl (by (try simp only [List.map_toArray, List.map_cons, List.map_nil]); first | done | rfl | (go_simp; done) | simp) ?_; (with_reducible refine (spec_IsProfile.calls k _ _ l0 true _ ?side1 ?side2 A3.out).mono ?_); (case side1 => repeat (first | exact HR0.out | (with_reducible first | apply cA | apply cN | apply cD))); (case side2 => exact HC0.out); rintro e w11 ⟨rfl, hb⟩; refine ⟨_, rfl, ?_⟩; have n0_ := Aside0.mk (below_step (by repeat (first | (with_reducible first | exact HB.out | apply lA | apply lN | apply lD) | exact HB.out)) hb); clear HB; have HB := n0_; clear n0_; (try clear hb); (try clear hb2); (try clear hk); (try clear hi)) | ((with_reducible refine gate_callee (f := 47) rfl ?_); refine goesL_ (some 11) rfl rfl Try.func47 (by kernel_rfl) rfl #[.int .i64 a1, .int .i64 0, .int .i64 1000000] rfl (by (try simp only [List.map_toArray, List.map_cons, List.map_nil]); first | done | rfl | (go_simp; done) | simp) ?_; (with_reducible refine (spec_l01In.calls a1 0 1000000 false _ A5.out).mono ?_); rintro e w' ⟨rfl, ⟨nd, rfl⟩⟩; refine ⟨_, rfl, ?_⟩))
   go_ret
   exact ⟨by first | rfl | (simp [errW_none, errW_some] <;> rfl) | (simp [*, errW_none, errW_some] <;> rfl), by repeat (first | (with_reducible first | exact HB.out | apply lA | apply lN | apply lD) | exact HB.out)⟩
 ·
  replace c4 := Bool.eq_false_iff.mpr c4
  subst c4
  have H1 : (some 1) = some r := by rw [if_neg (show ¬ (false = true) by decide)] at H; exact H
  clear H
  have H := H1
  clear H1
  obtain rfl := Option.some.inj H
  simp only [Option.some.injEq, Prod.mk.injEq] at H
  obtain ⟨rfl⟩ := H
  go_enter Try.func53, Try.ntmps53
  go_wp2_with (first | ((with_reducible refine gate_callee (f := 15) rfl ?_); refine goesL_ (some 7) rfl rfl Try.func15 (by kernel_rfl) rfl #[.slice A0 l0.length c0] rfl (by (try simp only [List.map_toArray, List.map_cons, List.map_nil]); first | done | rfl | (go_simp; done) | simp) ?_; (with_reducible refine (spec_IsProfile.calls k _ _ l0 false _ ?side1 ?side2 A3.out).mono ?_); (case side1 => repeat (first | exact HR0.out | (with_reducible first | apply cA | apply cN | apply cD))); (case side2 => exact HC0.out); rintro e w12 ⟨rfl, hb⟩; refine ⟨_, rfl, ?_⟩; have n0_ := Aside0.mk (below_step (by repeat (first | (with_reducible first | exact HB.out | apply lA | apply lN | apply lD) | exact HB.out)) hb); clear HB; have HB := n0_; clear n0_; (try clear hb); (try clear hb2); (try clear hk); (try clear hi)))
  go_ret
  exact ⟨by first | rfl | (simp [errW_none, errW_some] <;> rfl) | (simp [*, errW_none, errW_some] <;> rfl), by repeat (first | (with_reducible first | exact HB.out | apply lA | apply lN | apply lD) | exact HB.out)⟩

/-! ### spec_WidenWind: function 36 -/
def spec_WidenWind.j0 : Nat → List (S55) → Int → Int → Option ((List (S55)) × Int)
 | 0, _, _, _ => none
 | k + 1, x0, x1, x2 => (spec_l05Code.f k x0 x1).bind fun t164 => (if t164 = 0 then ((some (([] : List (S55)) : List (S55))).bind fun y165 => (if y165.length + x0.length < 5864062014805 then ((some (y165 ++ x0 : List (S55))).bind fun y168 => ((spec_l05Find.f k x0 x1).bind fun t171 => (if 0 ≤ t171 then (if t171 < (y168.length : Int) then ((some (y168.set (t171 : Int).toNat (⟨(rd_T55 y168 t171).f0, mn ((rd_T55 y168 t171).f1) x2, (rd_T55 y168 t171).f2⟩ : S55) : List (S55))).bind fun y173 => (some ((y173.set (t171 : Int).toNat (⟨(rd_T55 y173 t171).f0, (rd_T55 y173 t171).f1, mx ((rd_T55 y173 t171).f2) x2⟩ : S55)), 0))) else (none)) else (none)))) else (none))) else (some (([] : List (S55)), t164)))
def spec_WidenWind.f (k : Nat) (l0 : List (S55)) (a1 : Int) (a2 : Int) : Option ((List (S55)) × Int) := (spec_l01In.f a2 (-50000) 50000).bind fun t163 => (if t163 = true then (spec_WidenWind.j0 k l0 a1 a2) else (spec_WidenWind.j0 k l0 (-1) a2))
theorem spec_WidenWind.mono_l : ∀ k, (∀ y0 y1 y2, LeO (spec_WidenWind.j0 k y0 y1 y2) (spec_WidenWind.j0 (k + 1) y0 y1 y2))
 | 0 => fun _ _ _ r h => by simp [spec_WidenWind.j0] at h
 | k + 1 => by
  have ih0 := spec_WidenWind.mono_l k
  ·
   intro y0 y1 y2
   unfold spec_WidenWind.j0
   repeat' first
   | (with_reducible exact ih0 _ _ _)
   | (with_reducible exact spec_l05Code.mono _ _ _)
   | (with_reducible exact spec_l05Find.mono _ _ _)
   | (with_reducible exact LeO.refl _)
   | (with_reducible exact LeO.none _)
   | (with_reducible refine LeO.ite ?_ ?_)
   | (with_reducible refine LeO.bind ?_ (fun _ => ?_))
   | exact ih0 _ _ _
   | exact spec_l05Code.mono _ _ _
   | exact spec_l05Find.mono _ _ _
   | exact LeO.none _
   | refine LeO.ite ?_ ?_
   | refine LeO.bind ?_ (fun _ => ?_)
theorem spec_WidenWind.mono : ∀ a0 a1 a2 k, LeO (spec_WidenWind.f k a0 a1 a2) (spec_WidenWind.f (k + 1) a0 a1 a2) := by
 intro a0 a1 a2 k
 have ih0 := spec_WidenWind.mono_l k
 unfold spec_WidenWind.f
 repeat' first
   | (with_reducible exact ih0 _ _ _)
   | (with_reducible exact spec_l05Code.mono _ _ _)
   | (with_reducible exact spec_l05Find.mono _ _ _)
   | (with_reducible exact LeO.refl _)
   | (with_reducible exact LeO.none _)
   | (with_reducible refine LeO.ite ?_ ?_)
   | (with_reducible refine LeO.bind ?_ (fun _ => ?_))
   | exact ih0 _ _ _
   | exact spec_l05Code.mono _ _ _
   | exact spec_l05Find.mono _ _ _
   | exact LeO.none _
   | refine LeO.ite ?_ ?_
   | refine LeO.bind ?_ (fun _ => ?_)
set_option maxHeartbeats 8000000 in
set_option maxRecDepth 100000 in
theorem spec_WidenWind.calls (k : Nat) (A0 : Option Addr) (c0 : Nat) (l0 : List (S55)) (a1 : Int) (a2 : Int) (r1 : List (S55)) (r2 : Int) (w : World) (hr0 : Kd.C k55 w A0 l0.length l0) (hc0 : l0.length ≤ c0) (h : spec_WidenWind.f k l0 a1 a2 = some (r1, r2)) :
  Calls Try.prog 36 #[.slice A0 l0.length c0, .int .i64 a1, .int .i64 a2] w fun e w' => ∃ v0_ : Value, e = .returned (.tuple #[v0_, .int .i64 r2]) ∧ Kd.R k55 55 w' w.heap.size (fun _ => True) v0_ r1 ∧ Below w.heap.size w w' := by
 have HR0 := Aside0.mk hr0
 have HC0 := Aside0.mk hc0
 clear hr0 hc0
 have HB := Aside0.mk (Below.refl w.heap.size w)
 have H : ((spec_l01In.f a2 (-50000) 50000).bind fun t163 => (if t163 = true then (spec_WidenWind.j0 k l0 a1 a2) else (spec_WidenWind.j0 k l0 (-1) a2))) = some (r1, r2) := h
 clear h
 replace H := Option.bind_eq_some_iff.mp H
 obtain ⟨t163, A40, H⟩ := H
 replace H : (if t163 = true then (spec_WidenWind.j0 k l0 a1 a2) else (spec_WidenWind.j0 k l0 (-1) a2)) = some (r1, r2) := H
 have A4 := Aside0.mk A40
 clear A40
 have HC5 := Aside0.mk H
 clear H
 go_enter Try.func36, Try.ntmps36
 go_upto_if 13 with (first | ((with_reducible refine gate_callee (f := 47) rfl ?_); refine goesL_ (some 12) rfl rfl Try.func47 (by kernel_rfl) rfl #[.int .i64 a2, .int .i64 (-50000), .int .i64 50000] rfl (by (try simp only [List.map_toArray, List.map_cons, List.map_nil]); first | done | rfl | (go_simp; done) | simp) ?_; (with_reducible refine (spec_l01In.calls a2 (-50000) 50000 t163 _ A4.out).mono ?_); rintro e w' ⟨rfl, ⟨nd, rfl⟩⟩; refine ⟨_, rfl, ?_⟩))
 (try simp only [Act.put, sT, s0, sS])
 go_cut [1] (fun v1 wc => ∃ (kq : Nat) (x1_4 : Int), v1 = .int .i64 x1_4 ∧ Aside0 (spec_WidenWind.j0 kq l0 x1_4 a2 = some (r1, r2)) ∧ Aside0 (kq ≤ k) ∧ Aside0 (Below w.heap.size w wc))
 case first =>
  have H := HC5.out
  clear HC5
  by_cases c6 : t163 = true
  ·
   subst c6
   have H1 : (spec_WidenWind.j0 k l0 a1 a2) = some (r1, r2) := by rw [if_pos rfl] at H; exact H
   clear H
   have H := H1
   clear H1
   have H' := Aside0.mk H
   clear H
   go_wp2
   go_meet
   case rel => exact ⟨_, (a1), (by first | rfl | (simp; done) | (simp [*]; done)), H', ⟨by first | omega | exact Nat.le_refl _⟩, ⟨by repeat (first | (with_reducible first | exact HB.out | apply lA | apply lN | apply lD) | exact HB.out)⟩⟩
  ·
   replace c6 := Bool.eq_false_iff.mpr c6
   subst c6
   have H1 : (spec_WidenWind.j0 k l0 (-1) a2) = some (r1, r2) := by rw [if_neg (show ¬ (false = true) by decide)] at H; exact H
   clear H
   have H := H1
   clear H1
   have H' := Aside0.mk H
   clear H
   go_wp2
   go_meet
   case rel => exact ⟨_, ((-1)), (by first | rfl | (simp; done) | (simp [*]; done)), H', ⟨by first | omega | exact Nat.le_refl _⟩, ⟨by repeat (first | (with_reducible first | exact HB.out | apply lA | apply lN | apply lD) | exact HB.out)⟩⟩
 case rest =>
  clear HC5
  try clear p2
  try clear c3
  try clear c4
  try clear c6
  obtain ⟨kq, x1_4, rfl, HA, HJ4, HB⟩ := hcut
  cases kq with
  | zero => exact absurd HA.out (by simp [spec_WidenWind.j0])
  | succ kj4 =>
   have H := HA.out
   clear HA
   simp only [spec_WidenWind.j0] at H
   replace H := Option.bind_eq_some_iff.mp H
   obtain ⟨t164, A70, H⟩ := H
   replace H : (if t164 = 0 then ((some (([] : List (S55)) : List (S55))).bind fun y165 => (if y165.length + l0.length < 5864062014805 then ((some (y165 ++ l0 : List (S55))).bind fun y168 => ((spec_l05Find.f kj4 l0 x1_4).bind fun t171 => (if 0 ≤ t171 then (if t171 < (y168.length : Int) then ((some (y168.set (t171 : Int).toNat (⟨(rd_T55 y168 t171).f0, mn ((rd_T55 y168 t171).f1) a2, (rd_T55 y168 t171).f2⟩ : S55) : List (S55))).bind fun y173 => (some ((y173.set (t171 : Int).toNat (⟨(rd_T55 y173 t171).f0, (rd_T55 y173 t171).f1, mx ((rd_T55 y173 t171).f2) a2⟩ : S55)), 0))) else (none)) else (none)))) else (none))) else (some (([] : List (S55)), t164))) = some (r1, r2) := H
   have A7 := Aside0.mk A70
   clear A70
   by_cases c8 : t164 = 0
   ·
    rw [if_pos c8] at H
    have c8b0 : (t164 == 0) = true := beq_iff_eq.mpr c8
    have c8b1 : (t164 != 0) = false := bne_eq_false_iff_eq.mpr c8
    clear c8
    obtain ⟨y165, hy165⟩ : ∃ y_ : List (S55), y_ = (([] : List (S55))) := ⟨_, rfl⟩
    replace H : (if y165.length + l0.length < 5864062014805 then ((some (y165 ++ l0 : List (S55))).bind fun y168 => ((spec_l05Find.f kj4 l0 x1_4).bind fun t171 => (if 0 ≤ t171 then (if t171 < (y168.length : Int) then ((some (y168.set (t171 : Int).toNat (⟨(rd_T55 y168 t171).f0, mn ((rd_T55 y168 t171).f1) a2, (rd_T55 y168 t171).f2⟩ : S55) : List (S55))).bind fun y173 => (some ((y173.set (t171 : Int).toNat (⟨(rd_T55 y173 t171).f0, (rd_T55 y173 t171).f1, mx ((rd_T55 y173 t171).f2) a2⟩ : S55)), 0))) else (none)) else (none)))) else (none)) = some (r1, r2) := by first | (rw [hy165]; with_reducible exact H) | (have H2_ := (Option.bind_some _ _).symm.trans H; rw [hy165]; with_reducible exact H2_) | (have H2_ := (Option.bind_some _ _).symm.trans H; with_reducible exact H2_) | with_reducible exact H | (rw [hy165]; exact H) | exact H
    have Ny165 := Aside0.mk hy165
    clear hy165
    by_cases c9 : y165.length + l0.length < 5864062014805
    ·
     rw [if_pos c9] at H
     have LMc9 := Aside0.mk c9
     clear c9
     obtain ⟨y168, hy168⟩ : ∃ y_ : List (S55), y_ = (y165 ++ l0) := ⟨_, rfl⟩
     replace H : ((spec_l05Find.f kj4 l0 x1_4).bind fun t171 => (if 0 ≤ t171 then (if t171 < (y168.length : Int) then ((some (y168.set (t171 : Int).toNat (⟨(rd_T55 y168 t171).f0, mn ((rd_T55 y168 t171).f1) a2, (rd_T55 y168 t171).f2⟩ : S55) : List (S55))).bind fun y173 => (some ((y173.set (t171 : Int).toNat (⟨(rd_T55 y173 t171).f0, (rd_T55 y173 t171).f1, mx ((rd_T55 y173 t171).f2) a2⟩ : S55)), 0))) else (none)) else (none))) = some (r1, r2) := by first | (rw [hy168]; with_reducible exact H) | (have H2_ := (Option.bind_some _ _).symm.trans H; rw [hy168]; with_reducible exact H2_) | (have H2_ := (Option.bind_some _ _).symm.trans H; with_reducible exact H2_) | with_reducible exact H | (rw [hy168]; exact H) | exact H
     have Ny168 := Aside0.mk hy168
     clear hy168
     replace H := Option.bind_eq_some_iff.mp H
     obtain ⟨t171, A100, H⟩ := H
     replace H : (if 0 ≤ t171 then (if t171 < (y168.length : Int) then ((some (y168.set (t171 : Int).toNat (⟨(rd_T55 y168 t171).f0, mn ((rd_T55 y168 t171).f1) a2, (rd_T55 y168 t171).f2⟩ : S55) : List (S55))).bind fun y173 => (some ((y173.set (t171 : Int).toNat (⟨(rd_T55 y173 t171).f0, (rd_T55 y173 t171).f1, mx ((rd_T55 y173 t171).f2) a2⟩ : S55)), 0))) else (none)) else (none)) = some (r1, r2) := H
     have A10 := Aside0.mk A100
     clear A100
     by_cases c11 : 0 ≤ t171
     ·
      rw [if_pos c11] at H
      have c11b0 : decide (0 ≤ t171) = true := decide_eq_true c11
      clear c11
      by_cases c12 : t171 < (y168.length : Int)
      ·
       rw [if_pos c12] at H
       have c12b0 : decide (t171 < (y168.length : Int)) = true := decide_eq_true c12
       clear c12
       obtain ⟨ji13, hji13⟩ : ∃ j_ : Int, (mn ((rd_T55 y168 t171).f1) a2) = j_ := ⟨_, rfl⟩
       replace H : ((some (y168.set (t171 : Int).toNat (⟨(rd_T55 y168 t171).f0, ji13, (rd_T55 y168 t171).f2⟩ : S55) : List (S55))).bind fun y173 => (some ((y173.set (t171 : Int).toNat (⟨(rd_T55 y173 t171).f0, (rd_T55 y173 t171).f1, mx ((rd_T55 y173 t171).f2) a2⟩ : S55)), 0))) = some (r1, r2) := by first | (rw [hji13] at H; exact H) | (simp only [hji13] at H ⊢; exact H)
       (try rw [hji13] at A7)
       (try rw [hji13] at A10)
       have hji13_ : (if a2 < ((rd_T55 y168 t171).f1) then a2 else ((rd_T55 y168 t171).f1)) = ji13 := hji13
       obtain ⟨y173, hy173⟩ : ∃ y_ : List (S55), y_ = (y168.set (t171 : Int).toNat (⟨(rd_T55 y168 t171).f0, ji13, (rd_T55 y168 t171).f2⟩ : S55)) := ⟨_, rfl⟩
       replace H : (some ((y173.set (t171 : Int).toNat (⟨(rd_T55 y173 t171).f0, (rd_T55 y173 t171).f1, mx ((rd_T55 y173 t171).f2) a2⟩ : S55)), 0)) = some (r1, r2) := by first | (rw [hy173]; with_reducible exact H) | (have H2_ := (Option.bind_some _ _).symm.trans H; rw [hy173]; with_reducible exact H2_) | (have H2_ := (Option.bind_some _ _).symm.trans H; with_reducible exact H2_) | with_reducible exact H | (rw [hy173]; exact H) | exact H
       have Ny173 := Aside0.mk hy173
       clear hy173
       obtain ⟨ji15, hji15⟩ : ∃ j_ : Int, (mx ((rd_T55 y173 t171).f2) a2) = j_ := ⟨_, rfl⟩
       replace H : (some ((y173.set (t171 : Int).toNat (⟨(rd_T55 y173 t171).f0, (rd_T55 y173 t171).f1, ji15⟩ : S55)), 0)) = some (r1, r2) := by first | (rw [hji15] at H; exact H) | (simp only [hji15] at H ⊢; exact H)
       (try rw [hji15] at A7)
       (try rw [hji15] at A10)
       have hji15_ : (if ((rd_T55 y173 t171).f2) < a2 then a2 else ((rd_T55 y173 t171).f2)) = ji15 := hji15
       obtain ⟨y175, hy175⟩ : ∃ y_ : List (S55), y_ = (y173.set (t171 : Int).toNat (⟨(rd_T55 y173 t171).f0, (rd_T55 y173 t171).f1, ji15⟩ : S55)) := ⟨_, rfl⟩
       replace H : (some (y175, 0)) = some (r1, r2) := by first | (rw [hy175]; with_reducible exact H) | (have H2_ := (Option.bind_some _ _).symm.trans H; rw [hy175]; with_reducible exact H2_) | (have H2_ := (Option.bind_some _ _).symm.trans H; with_reducible exact H2_) | with_reducible exact H | (rw [hy175]; exact H) | exact H
       have Ny175 := Aside0.mk hy175
       clear hy175
       simp only [Option.some.injEq, Prod.mk.injEq] at H
       obtain ⟨rfl, rfl⟩ := H
       go_wp2_with (first | ((with_reducible refine gate_callee (f := 53) rfl ?_); refine goesL_ (some 16) rfl rfl Try.func53 (by kernel_rfl) rfl #[.slice A0 l0.length c0, .int .i64 x1_4] rfl (by (try simp only [List.map_toArray, List.map_cons, List.map_nil]); first | done | rfl | (go_simp; done) | simp) ?_; (with_reducible refine (spec_l05Code.calls kj4 _ _ l0 x1_4 t164 _ ?side1 ?side2 A7.out).mono ?_); (case side1 => repeat (first | exact (Kd.C_below HR0.out HB.out) | (with_reducible first | apply cA | apply cN | apply cD))); (case side2 => exact HC0.out); rintro e w17 ⟨rfl, hb⟩; refine ⟨_, rfl, ?_⟩; have n0_ := Aside0.mk (below_step (by repeat (first | (with_reducible first | exact HB.out | apply lA | apply lN | apply lD) | exact HB.out)) hb); clear HB; have HB := n0_; clear n0_; (try clear hb); (try clear hb2); (try clear hk); (try clear hi)) | ((with_reducible refine gate_dst (N := 20) rfl ?_); refine Kd.R_lit k55 _ 55 ?hg (N := 20) ?hd (xs := ([] : List (S55))) (inner := []) (ok := fun _ => True) (okp := fun _ => True) ?hr ?hp (fun _ hk => hk) trivial (Below.refl _ _) (Nat.le_refl _) (by simp) ?_; (case hd => rfl); (case hg => rfl); (case hr => first | (go_simp; done) | (go_simp; rfl)); (case hp => exact (Reps.none _ _)); intro v166 w18 ho19 hb hg_ hnew_; clear hg_ hnew_; (first | rw [← Ny165.out] at ho19 | (simp only [Int.reduceToNat] at ho19; rw [← Ny165.out] at ho19)); have n0_ := Aside0.mk (Kd.R_lower ho19 (below_size (by repeat (first | (with_reducible first | exact HB.out | apply lA | apply lN | apply lD) | exact HB.out)))); have n1_ := Aside0.mk (below_step (by repeat (first | (with_reducible first | exact HB.out | apply lA | apply lN | apply lD) | exact HB.out)) hb); clear HB; have HO167 := n0_; have HB := n1_; clear n0_ n1_; clear hb ho19) | ((with_reducible refine gate_builtin (b := .append) (xs := #[.tmp 20, .tmp 21]) rfl ?_); at_builtin; refine Kd.R_append_rows k55 (w0 := w) w.heap.size rfl (.tmp 20) (.tmp 21) 25 55 (.agg #[(.int .i64 0), (.int .i64 0), (.int .i64 0)]) 24 rfl Try.underlying25 info55 rfl (by decide) (by omega) v166 y165 l0 _ _ _ (fun _ => True) (fun _ => False) rfl rfl ?aO ?aR (fun _ _ h => h) (fun _ h => h.elim) ?aF ?aB ?aS ?aL ?_; (case aR => repeat (first | exact (Kd.C_below HR0.out HB.out) | (with_reducible first | apply cA | apply cN | apply cD))); (case aB => exact (by repeat (first | (with_reducible first | exact HB.out | apply lA | apply lN | apply lD) | exact HB.out))); (case aF => exact (fun _ _ => trivial)); (case aO => exact (by (with_reducible repeat (first | apply rA | apply rN | apply rD)); exact HO167.out)); (case aS => exact (below_size (by repeat (first | (with_reducible first | exact HB.out | apply lA | apply lN | apply lD) | exact HB.out)))); (case aL => have := LMc9.out; omega); intro v169 w20 ho hb hg hat; rw [← Ny168.out] at ho; have n0_ := Aside0.mk (hb); have n1_ := Aside0.mk (ho); clear HB; clear HO167; have HB := n0_; have HO170 := n1_; clear n0_ n1_; clear ho hb hg hat) | ((with_reducible refine gate_callee (f := 54) rfl ?_); refine goesL_ (some 25) rfl rfl Try.func54 (by kernel_rfl) rfl #[.slice A0 l0.length c0, .int .i64 x1_4] rfl (by (try simp only [List.map_toArray, List.map_cons, List.map_nil]); first | done | rfl | (go_simp; done) | simp) ?_; (with_reducible refine (spec_l05Find.calls kj4 _ _ l0 x1_4 t171 _ ?side1 ?side2 A10.out).mono ?_); (case side1 => repeat (first | exact (Kd.C_below HR0.out HB.out) | (with_reducible first | apply cA | apply cN | apply cD))); (case side2 => exact HC0.out); rintro e w' ⟨rfl, ⟨nd, rfl⟩⟩; refine ⟨_, rfl, ?_⟩; (try (rw [drewN_self w20]; generalize hq_ : World.drewN w20 _ = w20; have n0_ : Aside0 (Kd.R k55 55 w20 w.heap.size (fun _ => True) v169 y168) := ⟨by rw [← hq_]; exact (by (with_reducible repeat (first | apply rA | apply rN | apply rD)); exact HO170.out)⟩; have n1_ : Aside0 (Below w.heap.size w w20) := ⟨by rw [← hq_]; exact (by repeat (first | (with_reducible first | exact HB.out | apply lA | apply lN | apply lD) | exact HB.out))⟩; clear HO170 HB hq_; have HO170 := n0_; have HB := n1_; clear n0_ n1_)); obtain ⟨Ao21, co21, eo21⟩ := Kd.R_slice HO170.out; subst eo21; have p172 : 0 ≤ (t171 : Int) := of_decide_eq_true (by with_reducible assumption); have q172 : t171 < (y168.length : Int) := of_decide_eq_true (by with_reducible assumption); obtain ⟨ad172, e172, hx172_0, hx172_1, hx172_2⟩ := at_T55 (Kd.R_reads' HO170.out).2.2 t171 p172 q172; cases e172; replace p172 := eq_true p172; replace q172 := eq_true q172; have p14 : 0 ≤ (t171 : Int) := of_decide_eq_true (by with_reducible assumption); have q14 : (t171 : Int) < ((y168.length : Int) : Int) := of_decide_eq_true (by with_reducible assumption); obtain ⟨go14, co14, eo14, gb14, gl14, cl14, HG14⟩ := Kd.R_form HO170.out (by omega); (first | cases eo14 | (injection eo14 with ea_ en_ ec_; (first | subst ea_ | (injection ea_ with ea_; subst ea_)); subst ec_; clear en_)); have GB14 := Aside0.mk gb14; have GG14 := Aside0.mk HG14; clear gb14 gl14 HG14; (first | simp only [add_plain] at hx172_0 | skip); (first | simp only [add_plain] at hx172_1 | skip); (first | simp only [add_plain] at hx172_2 | skip); obtain ⟨ce14, hcl14, hM14, hcc14, hfr14⟩ := Kd.R_elem HO170.out z55 (t171 : Int) p14 q14; obtain rfl := k55_openM hM14; have hx14_0 : w20.cell? ⟨go14, (t171 : Int).toNat * 3, none⟩ = some (.int .i64 ((rd_T55 y168 t171).f0)) := hcc14 0 _ rfl; have hx14_1 : w20.cell? ⟨go14, (t171 : Int).toNat * 3 + 1, none⟩ = some (.int .i64 ((rd_T55 y168 t171).f1)) := hcc14 1 _ rfl; have hx14_2 : w20.cell? ⟨go14, (t171 : Int).toNat * 3 + 2, none⟩ = some (.int .i64 ((rd_T55 y168 t171).f2)) := hcc14 2 _ rfl; have hf14_0 : w20.frozen? ⟨go14, (t171 : Int).toNat * 3, none⟩ = false := hfr14 0; have hf14_1 : w20.frozen? ⟨go14, (t171 : Int).toNat * 3 + 1, none⟩ = false := hfr14 1; have hf14_2 : w20.frozen? ⟨go14, (t171 : Int).toNat * 3 + 2, none⟩ = false := hfr14 2; clear hcl14 hcc14 hfr14 hM14; replace p14 := eq_true p14; replace q14 := eq_true q14; have HX22 := Aside0.mk (show Kd.R k55 55 w20 w.heap.size (fun _ => True) (.slice (some ⟨go14, 0, none⟩) y168.length co21) y168 from (by (with_reducible repeat (first | apply rA | apply rN | apply rD)); exact HO170.out)); obtain ⟨ce22, hcl22, hM22, hcc22, hfr22⟩ := Kd.R_elem HX22.out z55 (t171 : Int) (of_decide_eq_true (by with_reducible assumption)) (by have h_ : (t171 : Int) < ((y168.length : Int) : Int) := of_decide_eq_true (by with_reducible assumption); first | exact h_ | (have e_ := (Kd.R_reads' HO170.out).1; omega) | simpa using h_); obtain rfl := k55_openM hM22; have HP22 := Kd.R_seg HX22.out (t171 : Int) (of_decide_eq_true (by with_reducible assumption)) (by have h_ : (t171 : Int) < ((y168.length : Int) : Int) := of_decide_eq_true (by with_reducible assumption); first | exact h_ | (have e_ := (Kd.R_reads' HO170.out).1; omega) | simpa using h_) (seg := [.int .i64 ji13]) (j := 1) hcl22 hcc22 (show 2 ≤ 3 from by decide) (x' := (⟨(rd_T55 y168 t171).f0, ji13, (rd_T55 y168 t171).f2⟩ : S55)) (k55_mkM _ _ _ (⟨(rd_T55 y168 t171).f0, ji13, (rd_T55 y168 t171).f2⟩ : S55) ) (fun _ hk => hk); have hx22_1 := hcc22 1 _ rfl; (try simp only [show (k55).sz = 3 from rfl, Nat.mul_one, Nat.add_zero] at hx22_1); have hf22_1 := hfr22 1; (try simp only [show (k55).sz = 3 from rfl, Nat.mul_one, Nat.add_zero] at hf22_1); clear hcl22 hcc22 hfr22 hM22) | ((with_reducible refine gate_store (t := 2) (p := 36) rfl ?_); refine store_event (t := 2) (p := 36) (v := ?vo_w23) (w1 := (w20.setCell ⟨go14, (t171 : Int).toNat * 3 + 1, none⟩ (.int .i64 ji13))) ?hg ?ho ?hn ?hr ?_; (case ho => rfl); (case hg => rfl); (case hn => rfl); (case hr => first | (go_simp; done) | (go_simp; rfl)); intro w23 hw; have hg : w20.grownBy w23 (some go14) := (by rw [hw]; exact HP22.2); have hp_ : Kd.R k55 55 w23 w.heap.size (fun _ => True) (.slice (some ⟨go14, 0, none⟩) y168.length co21) y173 := (by rw [hw, Ny173.out]; exact HP22.1); clear HP22; have n0_ := Aside0.mk (hp_); have n1_ := Aside0.mk ((by rw [hw]; exact below_set (HB.out) GB14.out : Below w.heap.size w w23)); clear HO170; clear HB; have HO170 := n0_; have HB := n1_; clear n0_ n1_; clear hg hw hp_; have p174 : 0 ≤ (t171 : Int) := of_decide_eq_true (by with_reducible assumption); have q174 : t171 < (y173.length : Int) := (by have h_ : (t171 : Int) < ((y168.length : Int) : Int) := of_decide_eq_true (by with_reducible assumption); first | (have e_ := (Kd.R_reads' HO170.out).1; omega) | simpa only [Ny173.out, List.length_set] using h_); have ql174 : ((t171 : Int) < ((y168.length : Int) : Int)) = True := eq_true (of_decide_eq_true (by with_reducible assumption)); obtain ⟨ad174, e174, hx174_0, hx174_1, hx174_2⟩ := at_T55 (Kd.R_reads' HO170.out).2.2 t171 p174 q174; obtain rfl : (⟨go14, 0, none⟩ : Addr) = ad174 := (by injection e174); (first | simp only [add_plain] at hx174_0 | simp only [add_at] at hx174_0 | simp only [Addr.add, Nat.zero_add] at hx174_0 | skip); (first | simp only [add_plain] at hx174_1 | simp only [add_at] at hx174_1 | simp only [Addr.add, Nat.zero_add] at hx174_1 | skip); (first | simp only [add_plain] at hx174_2 | simp only [add_at] at hx174_2 | simp only [Addr.add, Nat.zero_add] at hx174_2 | skip); replace p174 := eq_true p174; replace q174 := eq_true q174; have p16 : 0 ≤ (t171 : Int) := of_decide_eq_true (by with_reducible assumption); have q16 : (t171 : Int) < ((y168.length : Int) : Int) := of_decide_eq_true (by with_reducible assumption); obtain ⟨ce16, hcl16, hM16, hcc16, hfr16⟩ := Kd.R_elem HO170.out z55 (t171 : Int) p16 q16; obtain rfl := k55_openM hM16; have hx16_0 : w23.cell? ⟨go14, (t171 : Int).toNat * 3, none⟩ = some (.int .i64 ((rd_T55 y173 t171).f0)) := hcc16 0 _ rfl; have hx16_1 : w23.cell? ⟨go14, (t171 : Int).toNat * 3 + 1, none⟩ = some (.int .i64 ((rd_T55 y173 t171).f1)) := hcc16 1 _ rfl; have hx16_2 : w23.cell? ⟨go14, (t171 : Int).toNat * 3 + 2, none⟩ = some (.int .i64 ((rd_T55 y173 t171).f2)) := hcc16 2 _ rfl; have hf16_0 : w23.frozen? ⟨go14, (t171 : Int).toNat * 3, none⟩ = false := hfr16 0; have hf16_1 : w23.frozen? ⟨go14, (t171 : Int).toNat * 3 + 1, none⟩ = false := hfr16 1; have hf16_2 : w23.frozen? ⟨go14, (t171 : Int).toNat * 3 + 2, none⟩ = false := hfr16 2; clear hcl16 hcc16 hfr16 hM16; replace p16 := eq_true p16; replace q16 := eq_true q16; have HX24 := Aside0.mk (show Kd.R k55 55 w23 w.heap.size (fun _ => True) (.slice (some ⟨go14, 0, none⟩) y168.length co21) y173 from (by (with_reducible repeat (first | apply rA | apply rN | apply rD)); exact HO170.out)); obtain ⟨ce24, hcl24, hM24, hcc24, hfr24⟩ := Kd.R_elem HX24.out z55 (t171 : Int) (of_decide_eq_true (by with_reducible assumption)) (by have h_ : (t171 : Int) < ((y168.length : Int) : Int) := of_decide_eq_true (by with_reducible assumption); first | exact h_ | (have e_ := (Kd.R_reads' HO170.out).1; omega) | simpa using h_); obtain rfl := k55_openM hM24; have HP24 := Kd.R_seg HX24.out (t171 : Int) (of_decide_eq_true (by with_reducible assumption)) (by have h_ : (t171 : Int) < ((y168.length : Int) : Int) := of_decide_eq_true (by with_reducible assumption); first | exact h_ | (have e_ := (Kd.R_reads' HO170.out).1; omega) | simpa using h_) (seg := [.int .i64 ji15]) (j := 2) hcl24 hcc24 (show 3 ≤ 3 from by decide) (x' := (⟨(rd_T55 y173 t171).f0, (rd_T55 y173 t171).f1, ji15⟩ : S55)) (k55_mkM _ _ _ (⟨(rd_T55 y173 t171).f0, (rd_T55 y173 t171).f1, ji15⟩ : S55) ) (fun _ hk => hk); have hx24_2 := hcc24 2 _ rfl; (try simp only [show (k55).sz = 3 from rfl, Nat.mul_one, Nat.add_zero] at hx24_2); have hf24_2 := hfr24 2; (try simp only [show (k55).sz = 3 from rfl, Nat.mul_one, Nat.add_zero] at hf24_2); clear hcl24 hcc24 hfr24 hM24) | ((with_reducible refine gate_store (t := 2) (p := 47) rfl ?_); refine store_event (t := 2) (p := 47) (v := ?vo_w25) (w1 := (w23.setCell ⟨go14, (t171 : Int).toNat * 3 + 2, none⟩ (.int .i64 ji15))) ?hg ?ho ?hn ?hr ?_; (case ho => rfl); (case hg => rfl); (case hn => rfl); (case hr => first | (go_simp; done) | (go_simp; rfl)); intro w25 hw; have hg : w23.grownBy w25 (some go14) := (by rw [hw]; exact HP24.2); have hp_ : Kd.R k55 55 w25 w.heap.size (fun _ => True) (.slice (some ⟨go14, 0, none⟩) y168.length co21) y175 := (by rw [hw, Ny175.out]; exact HP24.1); clear HP24; have n0_ := Aside0.mk (hp_); have n1_ := Aside0.mk ((by rw [hw]; exact below_set (HB.out) GB14.out : Below w.heap.size w w25)); clear HO170; clear HB; have HO170 := n0_; have HB := n1_; clear n0_ n1_; clear hg hw hp_))
       go_ret2
       exact ⟨_, by first | rfl | (simp [errW_none, errW_some] <;> rfl) | (simp only [← hji13, ← hji15]; first | rfl | (simp [errW_none, errW_some] <;> rfl)) | (simp [*, errW_none, errW_some] <;> rfl), by (with_reducible repeat (first | apply rA | apply rN | apply rD)); exact HO170.out, by repeat (first | (with_reducible first | exact HB.out | apply lA | apply lN | apply lD) | exact HB.out)⟩
      ·
       rw [if_neg c12] at H
       exact absurd H (by simp)
     ·
      rw [if_neg c11] at H
      exact absurd H (by simp)
    ·
     rw [if_neg c9] at H
     exact absurd H (by simp)
   ·
    rw [if_neg c8] at H
    have c8b0 : (t164 == 0) = false := beq_eq_false_iff_ne.mpr c8
    have c8b1 : (t164 != 0) = true := bne_iff_ne.mpr c8
    simp only [Option.some.injEq, Prod.mk.injEq] at H
    obtain ⟨rfl, rfl⟩ := H
    go_wp2_with (first | ((with_reducible refine gate_callee (f := 53) rfl ?_); refine goesL_ (some 16) rfl rfl Try.func53 (by kernel_rfl) rfl #[.slice A0 l0.length c0, .int .i64 x1_4] rfl (by (try simp only [List.map_toArray, List.map_cons, List.map_nil]); first | done | rfl | (go_simp; done) | simp) ?_; (with_reducible refine (spec_l05Code.calls kj4 _ _ l0 x1_4 t164 _ ?side1 ?side2 A7.out).mono ?_); (case side1 => repeat (first | exact (Kd.C_below HR0.out HB.out) | (with_reducible first | apply cA | apply cN | apply cD))); (case side2 => exact HC0.out); rintro e w26 ⟨rfl, hb⟩; refine ⟨_, rfl, ?_⟩; have n0_ := Aside0.mk (below_step (by repeat (first | (with_reducible first | exact HB.out | apply lA | apply lN | apply lD) | exact HB.out)) hb); clear HB; have HB := n0_; clear n0_; (try clear hb); (try clear hb2); (try clear hk); (try clear hi)))
    go_ret2
    exact ⟨_, by first | rfl | (simp [errW_none, errW_some] <;> rfl) | (simp [*, errW_none, errW_some] <;> rfl), by first | exact Kd.R_nil _ _ _ _ _ | exact Kd.N_nil _ _ _ _ _ | exact Kd.V_nil _ _ _ _ _ | exact Kd.Q_nil _ _ _ _ _ | exact Kd.S_nil _ _ _ _ _, by repeat (first | (with_reducible first | exact HB.out | apply lA | apply lN | apply lD) | exact HB.out)⟩

/-! ### impl_WidenWind: function 37 -/
def impl_WidenWind.f (k : Nat) (l0 : List (S55)) (a1 : Int) (a2 : Int) : Option ((List (S55)) × Int) := (impl_isSide.f a2).bind fun t176 => ((impl_layersTo.f k l0 a1 t176).bind fun bt177 => (if bt177.2 = 0 then ((some (([] : List (S55)) : List (S55))).bind fun y181 => (if y181.length + l0.length < 5864062014805 then ((some (y181 ++ l0 : List (S55))).bind fun y184 => (if 0 ≤ (wrap64 ((bt177.1.length : Int) - 1)) then (if (wrap64 ((bt177.1.length : Int) - 1)) < (y184.length : Int) then ((some (y184.set ((wrap64 ((bt177.1.length : Int) - 1)) : Int).toNat (⟨(rd_T55 y184 (wrap64 ((bt177.1.length : Int) - 1))).f0, mn ((rd_T55 y184 (wrap64 ((bt177.1.length : Int) - 1))).f1) a2, (rd_T55 y184 (wrap64 ((bt177.1.length : Int) - 1))).f2⟩ : S55) : List (S55))).bind fun y188 => (some ((y188.set ((wrap64 ((bt177.1.length : Int) - 1)) : Int).toNat (⟨(rd_T55 y188 (wrap64 ((bt177.1.length : Int) - 1))).f0, (rd_T55 y188 (wrap64 ((bt177.1.length : Int) - 1))).f1, mx ((rd_T55 y188 (wrap64 ((bt177.1.length : Int) - 1))).f2) a2⟩ : S55)), 0))) else (none)) else (none))) else (none))) else (some (([] : List (S55)), bt177.2))))
theorem impl_WidenWind.mono : ∀ a0 a1 a2 k, LeO (impl_WidenWind.f k a0 a1 a2) (impl_WidenWind.f (k + 1) a0 a1 a2) := by
 intro a0 a1 a2 k
 unfold impl_WidenWind.f
 repeat' first
   | (with_reducible exact impl_layersTo.mono _ _ _ _)
   | (with_reducible exact LeO.refl _)
   | (with_reducible exact LeO.none _)
   | (with_reducible refine LeO.ite ?_ ?_)
   | (with_reducible refine LeO.bind ?_ (fun _ => ?_))
   | exact impl_layersTo.mono _ _ _ _
   | exact LeO.none _
   | refine LeO.ite ?_ ?_
   | refine LeO.bind ?_ (fun _ => ?_)
set_option maxHeartbeats 8000000 in
set_option maxRecDepth 100000 in
theorem impl_WidenWind.calls (k : Nat) (A0 : Option Addr) (c0 : Nat) (l0 : List (S55)) (a1 : Int) (a2 : Int) (r1 : List (S55)) (r2 : Int) (w : World) (hr0 : Kd.C k55 w A0 l0.length l0) (hc0 : l0.length ≤ c0) (h : impl_WidenWind.f k l0 a1 a2 = some (r1, r2)) :
  Calls Try.prog 37 #[.slice A0 l0.length c0, .int .i64 a1, .int .i64 a2] w fun e w' => ∃ v0_ : Value, e = .returned (.tuple #[v0_, .int .i64 r2]) ∧ Kd.R k55 55 w' w.heap.size (fun _ => True) v0_ r1 ∧ Below w.heap.size w w' := by
 have HR0 := Aside0.mk hr0
 have HC0 := Aside0.mk hc0
 clear hr0 hc0
 have HB := Aside0.mk (Below.refl w.heap.size w)
 have H : ((impl_isSide.f a2).bind fun t176 => ((impl_layersTo.f k l0 a1 t176).bind fun bt177 => (if bt177.2 = 0 then ((some (([] : List (S55)) : List (S55))).bind fun y181 => (if y181.length + l0.length < 5864062014805 then ((some (y181 ++ l0 : List (S55))).bind fun y184 => (if 0 ≤ (wrap64 ((bt177.1.length : Int) - 1)) then (if (wrap64 ((bt177.1.length : Int) - 1)) < (y184.length : Int) then ((some (y184.set ((wrap64 ((bt177.1.length : Int) - 1)) : Int).toNat (⟨(rd_T55 y184 (wrap64 ((bt177.1.length : Int) - 1))).f0, mn ((rd_T55 y184 (wrap64 ((bt177.1.length : Int) - 1))).f1) a2, (rd_T55 y184 (wrap64 ((bt177.1.length : Int) - 1))).f2⟩ : S55) : List (S55))).bind fun y188 => (some ((y188.set ((wrap64 ((bt177.1.length : Int) - 1)) : Int).toNat (⟨(rd_T55 y188 (wrap64 ((bt177.1.length : Int) - 1))).f0, (rd_T55 y188 (wrap64 ((bt177.1.length : Int) - 1))).f1, mx ((rd_T55 y188 (wrap64 ((bt177.1.length : Int) - 1))).f2) a2⟩ : S55)), 0))) else (none)) else (none))) else (none))) else (some (([] : List (S55)), bt177.2))))) = some (r1, r2) := h
 clear h
 replace H := Option.bind_eq_some_iff.mp H
 obtain ⟨t176, A40, H⟩ := H
 replace H : ((impl_layersTo.f k l0 a1 t176).bind fun bt177 => (if bt177.2 = 0 then ((some (([] : List (S55)) : List (S55))).bind fun y181 => (if y181.length + l0.length < 5864062014805 then ((some (y181 ++ l0 : List (S55))).bind fun y184 => (if 0 ≤ (wrap64 ((bt177.1.length : Int) - 1)) then (if (wrap64 ((bt177.1.length : Int) - 1)) < (y184.length : Int) then ((some (y184.set ((wrap64 ((bt177.1.length : Int) - 1)) : Int).toNat (⟨(rd_T55 y184 (wrap64 ((bt177.1.length : Int) - 1))).f0, mn ((rd_T55 y184 (wrap64 ((bt177.1.length : Int) - 1))).f1) a2, (rd_T55 y184 (wrap64 ((bt177.1.length : Int) - 1))).f2⟩ : S55) : List (S55))).bind fun y188 => (some ((y188.set ((wrap64 ((bt177.1.length : Int) - 1)) : Int).toNat (⟨(rd_T55 y188 (wrap64 ((bt177.1.length : Int) - 1))).f0, (rd_T55 y188 (wrap64 ((bt177.1.length : Int) - 1))).f1, mx ((rd_T55 y188 (wrap64 ((bt177.1.length : Int) - 1))).f2) a2⟩ : S55)), 0))) else (none)) else (none))) else (none))) else (some (([] : List (S55)), bt177.2)))) = some (r1, r2) := H
 have A4 := Aside0.mk A40
 clear A40
 replace H := Option.bind_eq_some_iff.mp H
 obtain ⟨⟨t177, t178⟩, A50, H⟩ := H
 replace H : (if t178 = 0 then ((some (([] : List (S55)) : List (S55))).bind fun y181 => (if y181.length + l0.length < 5864062014805 then ((some (y181 ++ l0 : List (S55))).bind fun y184 => (if 0 ≤ (wrap64 ((t177.length : Int) - 1)) then (if (wrap64 ((t177.length : Int) - 1)) < (y184.length : Int) then ((some (y184.set ((wrap64 ((t177.length : Int) - 1)) : Int).toNat (⟨(rd_T55 y184 (wrap64 ((t177.length : Int) - 1))).f0, mn ((rd_T55 y184 (wrap64 ((t177.length : Int) - 1))).f1) a2, (rd_T55 y184 (wrap64 ((t177.length : Int) - 1))).f2⟩ : S55) : List (S55))).bind fun y188 => (some ((y188.set ((wrap64 ((t177.length : Int) - 1)) : Int).toNat (⟨(rd_T55 y188 (wrap64 ((t177.length : Int) - 1))).f0, (rd_T55 y188 (wrap64 ((t177.length : Int) - 1))).f1, mx ((rd_T55 y188 (wrap64 ((t177.length : Int) - 1))).f2) a2⟩ : S55)), 0))) else (none)) else (none))) else (none))) else (some (([] : List (S55)), t178))) = some (r1, r2) := H
 have A5 := Aside0.mk A50
 clear A50
 by_cases c6 : t178 = 0
 ·
  rw [if_pos c6] at H
  have c6b0 : (t178 == 0) = true := beq_iff_eq.mpr c6
  have c6b1 : (t178 != 0) = false := bne_eq_false_iff_eq.mpr c6
  clear c6
  obtain ⟨y181, hy181⟩ : ∃ y_ : List (S55), y_ = (([] : List (S55))) := ⟨_, rfl⟩
  replace H : (if y181.length + l0.length < 5864062014805 then ((some (y181 ++ l0 : List (S55))).bind fun y184 => (if 0 ≤ (wrap64 ((t177.length : Int) - 1)) then (if (wrap64 ((t177.length : Int) - 1)) < (y184.length : Int) then ((some (y184.set ((wrap64 ((t177.length : Int) - 1)) : Int).toNat (⟨(rd_T55 y184 (wrap64 ((t177.length : Int) - 1))).f0, mn ((rd_T55 y184 (wrap64 ((t177.length : Int) - 1))).f1) a2, (rd_T55 y184 (wrap64 ((t177.length : Int) - 1))).f2⟩ : S55) : List (S55))).bind fun y188 => (some ((y188.set ((wrap64 ((t177.length : Int) - 1)) : Int).toNat (⟨(rd_T55 y188 (wrap64 ((t177.length : Int) - 1))).f0, (rd_T55 y188 (wrap64 ((t177.length : Int) - 1))).f1, mx ((rd_T55 y188 (wrap64 ((t177.length : Int) - 1))).f2) a2⟩ : S55)), 0))) else (none)) else (none))) else (none)) = some (r1, r2) := by first | (rw [hy181]; with_reducible exact H) | (have H2_ := (Option.bind_some _ _).symm.trans H; rw [hy181]; with_reducible exact H2_) | (have H2_ := (Option.bind_some _ _).symm.trans H; with_reducible exact H2_) | with_reducible exact H | (rw [hy181]; exact H) | exact H
  have Ny181 := Aside0.mk hy181
  clear hy181
  by_cases c7 : y181.length + l0.length < 5864062014805
  ·
   rw [if_pos c7] at H
   have LMc7 := Aside0.mk c7
   clear c7
   obtain ⟨y184, hy184⟩ : ∃ y_ : List (S55), y_ = (y181 ++ l0) := ⟨_, rfl⟩
   replace H : (if 0 ≤ (wrap64 ((t177.length : Int) - 1)) then (if (wrap64 ((t177.length : Int) - 1)) < (y184.length : Int) then ((some (y184.set ((wrap64 ((t177.length : Int) - 1)) : Int).toNat (⟨(rd_T55 y184 (wrap64 ((t177.length : Int) - 1))).f0, mn ((rd_T55 y184 (wrap64 ((t177.length : Int) - 1))).f1) a2, (rd_T55 y184 (wrap64 ((t177.length : Int) - 1))).f2⟩ : S55) : List (S55))).bind fun y188 => (some ((y188.set ((wrap64 ((t177.length : Int) - 1)) : Int).toNat (⟨(rd_T55 y188 (wrap64 ((t177.length : Int) - 1))).f0, (rd_T55 y188 (wrap64 ((t177.length : Int) - 1))).f1, mx ((rd_T55 y188 (wrap64 ((t177.length : Int) - 1))).f2) a2⟩ : S55)), 0))) else (none)) else (none)) = some (r1, r2) := by first | (rw [hy184]; with_reducible exact H) | (have H2_ := (Option.bind_some _ _).symm.trans H; rw [hy184]; with_reducible exact H2_) | (have H2_ := (Option.bind_some _ _).symm.trans H; with_reducible exact H2_) | with_reducible exact H | (rw [hy184]; exact H) | exact H
   have Ny184 := Aside0.mk hy184
   clear hy184
   obtain ⟨ji8, hji8⟩ : ∃ j_ : Int, (wrap64 ((t177.length : Int) - 1)) = j_ := ⟨_, rfl⟩
   replace H : (if 0 ≤ (ji8) then (if (ji8) < (y184.length : Int) then ((some (y184.set ((ji8) : Int).toNat (⟨(rd_T55 y184 (ji8)).f0, mn ((rd_T55 y184 (ji8)).f1) a2, (rd_T55 y184 (ji8)).f2⟩ : S55) : List (S55))).bind fun y188 => (some ((y188.set ((ji8) : Int).toNat (⟨(rd_T55 y188 (ji8)).f0, (rd_T55 y188 (ji8)).f1, mx ((rd_T55 y188 (ji8)).f2) a2⟩ : S55)), 0))) else (none)) else (none)) = some (r1, r2) := by first | (rw [hji8] at H; exact H) | (simp only [hji8] at H ⊢; exact H)
   (try rw [hji8] at A4)
   (try rw [hji8] at A5)
   have hji8w : (IntKind.i64.wrap ((t177.length : Int) - 1)) = ji8 := (i64_w _).trans hji8
   by_cases c9 : 0 ≤ (ji8)
   ·
    rw [if_pos c9] at H
    have c9b0 : decide (0 ≤ (ji8)) = true := decide_eq_true c9
    clear c9
    by_cases c10 : (ji8) < (y184.length : Int)
    ·
     rw [if_pos c10] at H
     have c10b0 : decide ((ji8) < (y184.length : Int)) = true := decide_eq_true c10
     clear c10
     obtain ⟨ji11, hji11⟩ : ∃ j_ : Int, (mn ((rd_T55 y184 (ji8)).f1) a2) = j_ := ⟨_, rfl⟩
     replace H : ((some (y184.set ((ji8) : Int).toNat (⟨(rd_T55 y184 (ji8)).f0, ji11, (rd_T55 y184 (ji8)).f2⟩ : S55) : List (S55))).bind fun y188 => (some ((y188.set ((ji8) : Int).toNat (⟨(rd_T55 y188 (ji8)).f0, (rd_T55 y188 (ji8)).f1, mx ((rd_T55 y188 (ji8)).f2) a2⟩ : S55)), 0))) = some (r1, r2) := by first | (rw [hji11] at H; exact H) | (simp only [hji11] at H ⊢; exact H)
     (try rw [hji11] at A4)
     (try rw [hji11] at A5)
     have hji11_ : (if a2 < ((rd_T55 y184 (ji8)).f1) then a2 else ((rd_T55 y184 (ji8)).f1)) = ji11 := hji11
     obtain ⟨y188, hy188⟩ : ∃ y_ : List (S55), y_ = (y184.set ((ji8) : Int).toNat (⟨(rd_T55 y184 (ji8)).f0, ji11, (rd_T55 y184 (ji8)).f2⟩ : S55)) := ⟨_, rfl⟩
     replace H : (some ((y188.set ((ji8) : Int).toNat (⟨(rd_T55 y188 (ji8)).f0, (rd_T55 y188 (ji8)).f1, mx ((rd_T55 y188 (ji8)).f2) a2⟩ : S55)), 0)) = some (r1, r2) := by first | (rw [hy188]; with_reducible exact H) | (have H2_ := (Option.bind_some _ _).symm.trans H; rw [hy188]; with_reducible exact H2_) | (have H2_ := (Option.bind_some _ _).symm.trans H; with_reducible exact H2_) | with_reducible exact H | (rw [hy188]; exact H) | exact H
     have Ny188 := Aside0.mk hy188
     clear hy188
     obtain ⟨ji13, hji13⟩ : ∃ j_ : Int, (mx ((rd_T55 y188 (ji8)).f2) a2) = j_ := ⟨_, rfl⟩
     replace H : (some ((y188.set ((ji8) : Int).toNat (⟨(rd_T55 y188 (ji8)).f0, (rd_T55 y188 (ji8)).f1, ji13⟩ : S55)), 0)) = some (r1, r2) := by first | (rw [hji13] at H; exact H) | (simp only [hji13] at H ⊢; exact H)
     (try rw [hji13] at A4)
     (try rw [hji13] at A5)
     have hji13_ : (if ((rd_T55 y188 (ji8)).f2) < a2 then a2 else ((rd_T55 y188 (ji8)).f2)) = ji13 := hji13
     obtain ⟨y190, hy190⟩ : ∃ y_ : List (S55), y_ = (y188.set ((ji8) : Int).toNat (⟨(rd_T55 y188 (ji8)).f0, (rd_T55 y188 (ji8)).f1, ji13⟩ : S55)) := ⟨_, rfl⟩
     replace H : (some (y190, 0)) = some (r1, r2) := by first | (rw [hy190]; with_reducible exact H) | (have H2_ := (Option.bind_some _ _).symm.trans H; rw [hy190]; with_reducible exact H2_) | (have H2_ := (Option.bind_some _ _).symm.trans H; with_reducible exact H2_) | with_reducible exact H | (rw [hy190]; exact H) | exact H
     have Ny190 := Aside0.mk hy190
     clear hy190
     simp only [Option.some.injEq, Prod.mk.injEq] at H
     obtain ⟨rfl, rfl⟩ := H
     go_enter Try.func37, Try.ntmps37
     go_wp2_with (first | ((with_reducible refine gate_callee (f := 62) rfl ?_); refine goesL_ (some 16) rfl rfl Try.func62 (by kernel_rfl) rfl #[.int .i64 a2] rfl (by (try simp only [List.map_toArray, List.map_cons, List.map_nil]); first | done | rfl | (go_simp; done) | simp) ?_; (with_reducible refine (impl_isSide.calls a2 t176 _ A4.out).mono ?_); rintro e w' ⟨rfl, ⟨nd, rfl⟩⟩; refine ⟨_, rfl, ?_⟩) | ((with_reducible refine gate_callee (f := 55) rfl ?_); refine goesL_ (some 17) rfl rfl Try.func55 (by kernel_rfl) rfl #[.slice A0 l0.length c0, .int .i64 a1, .bool t176] rfl (by (try simp only [List.map_toArray, List.map_cons, List.map_nil]); first | done | rfl | (go_simp; done) | simp) ?_; (with_reducible refine (layersTo_own k _ _ l0 a1 t176 t177 t178 _ ?side1 ?side2 A5.out).mono ?_); (case side1 => repeat (first | exact HR0.out | (with_reducible first | apply cA | apply cN | apply cD))); (case side2 => exact HC0.out); rintro e w15 ⟨A1_, c1_, rfl, hC_, hcc_, hb⟩; refine ⟨_, rfl, ?_⟩; clear hC_ hcc_; have n1_ := Aside0.mk (below_step (by repeat (first | (with_reducible first | exact HB.out | apply lA | apply lN | apply lD) | exact HB.out)) hb); clear HB; have HB := n1_; clear n1_; (try clear hb); (try clear hb2); (try clear hk); (try clear hi); (try clear ho0)) | ((with_reducible refine gate_dst (N := 23) rfl ?_); refine Kd.R_lit k55 _ 55 ?hg (N := 23) ?hd (xs := ([] : List (S55))) (inner := []) (ok := fun _ => True) (okp := fun _ => True) ?hr ?hp (fun _ hk => hk) trivial (Below.refl _ _) (Nat.le_refl _) (by simp) ?_; (case hd => rfl); (case hg => rfl); (case hr => first | (go_simp; done) | (go_simp; rfl)); (case hp => exact (Reps.none _ _)); intro v182 w16 ho17 hb hg_ hnew_; clear hg_ hnew_; (first | rw [← Ny181.out] at ho17 | (simp only [Int.reduceToNat] at ho17; rw [← Ny181.out] at ho17)); have n1_ := Aside0.mk (Kd.R_lower (ho17) (below_size (by repeat (first | (with_reducible first | exact HB.out | apply lA | apply lN | apply lD) | exact HB.out)))); have n2_ := Aside0.mk (below_step (by repeat (first | (with_reducible first | exact HB.out | apply lA | apply lN | apply lD) | exact HB.out)) hb); clear HB; have HO183 := n1_; have HB := n2_; (try clear n0_); clear n1_ n2_; clear hb ho17) | ((with_reducible refine gate_builtin (b := .append) (xs := #[.tmp 23, .tmp 24]) rfl ?_); at_builtin; refine Kd.R_append_rows k55 (w0 := w) w.heap.size rfl (.tmp 23) (.tmp 24) 25 55 (.agg #[(.int .i64 0), (.int .i64 0), (.int .i64 0)]) 24 rfl Try.underlying25 info55 rfl (by decide) (by omega) v182 y181 l0 _ _ _ (fun _ => True) (fun _ => False) rfl rfl ?aO ?aR (fun _ _ h => h) (fun _ h => h.elim) ?aF ?aB ?aS ?aL ?_; (case aR => repeat (first | exact (Kd.C_below HR0.out HB.out) | (with_reducible first | apply cA | apply cN | apply cD))); (case aB => exact (by repeat (first | (with_reducible first | exact HB.out | apply lA | apply lN | apply lD) | exact HB.out))); (case aF => exact (fun _ _ => trivial)); (case aO => exact (by (with_reducible repeat (first | apply rA | apply rN | apply rD)); first | exact HO183.out | exact Kd.R_mono HO183.out (fun _ hk => trivial))); (case aS => exact (below_size (by repeat (first | (with_reducible first | exact HB.out | apply lA | apply lN | apply lD) | exact HB.out)))); (case aL => have := LMc7.out; omega); intro v185 w18 ho hb hg hat; rw [← Ny184.out] at ho; have n1_ := Aside0.mk (hb); have n2_ := Aside0.mk (ho); clear HB; clear HO183; have HB := n1_; have HO186 := n2_; (try clear n0_); clear n1_ n2_; clear ho hb hg hat; obtain ⟨Ao20, co20, eo20⟩ := Kd.R_slice HO186.out; subst eo20; have p187 : 0 ≤ ((ji8) : Int) := of_decide_eq_true (by with_reducible assumption); have q187 : (ji8) < (y184.length : Int) := of_decide_eq_true (by with_reducible assumption); obtain ⟨ad187, e187, hx187_0, hx187_1, hx187_2⟩ := at_T55 (Kd.R_reads' HO186.out).2.2 (ji8) p187 q187; cases e187; replace p187 := eq_true p187; replace q187 := eq_true q187; have p12 : 0 ≤ ((ji8) : Int) := of_decide_eq_true (by with_reducible assumption); have q12 : ((ji8) : Int) < ((y184.length : Int) : Int) := of_decide_eq_true (by with_reducible assumption); obtain ⟨go12, co12, eo12, gb12, gl12, cl12, HG12⟩ := Kd.R_form HO186.out (by omega); (first | cases eo12 | (injection eo12 with ea_ en_ ec_; (first | subst ea_ | (injection ea_ with ea_; subst ea_)); subst ec_; clear en_)); have GB12 := Aside0.mk gb12; have GG12 := Aside0.mk HG12; clear gb12 gl12 HG12; (first | simp only [add_plain] at hx187_0 | skip); (first | simp only [add_plain] at hx187_1 | skip); (first | simp only [add_plain] at hx187_2 | skip); obtain ⟨ce12, hcl12, hM12, hcc12, hfr12⟩ := Kd.R_elem HO186.out z55 ((ji8) : Int) p12 q12; obtain rfl := k55_openM hM12; have hx12_0 : w18.cell? ⟨go12, ((ji8) : Int).toNat * 3, none⟩ = some (.int .i64 ((rd_T55 y184 (ji8)).f0)) := hcc12 0 _ rfl; have hx12_1 : w18.cell? ⟨go12, ((ji8) : Int).toNat * 3 + 1, none⟩ = some (.int .i64 ((rd_T55 y184 (ji8)).f1)) := hcc12 1 _ rfl; have hx12_2 : w18.cell? ⟨go12, ((ji8) : Int).toNat * 3 + 2, none⟩ = some (.int .i64 ((rd_T55 y184 (ji8)).f2)) := hcc12 2 _ rfl; have hf12_0 : w18.frozen? ⟨go12, ((ji8) : Int).toNat * 3, none⟩ = false := hfr12 0; have hf12_1 : w18.frozen? ⟨go12, ((ji8) : Int).toNat * 3 + 1, none⟩ = false := hfr12 1; have hf12_2 : w18.frozen? ⟨go12, ((ji8) : Int).toNat * 3 + 2, none⟩ = false := hfr12 2; clear hcl12 hcc12 hfr12 hM12; replace p12 := eq_true p12; replace q12 := eq_true q12; have HX21 := Aside0.mk (show Kd.R k55 55 w18 w.heap.size (fun _ => True) (.slice (some ⟨go12, 0, none⟩) y184.length co20) y184 from (by (with_reducible repeat (first | apply rA | apply rN | apply rD)); exact HO186.out)); obtain ⟨ce21, hcl21, hM21, hcc21, hfr21⟩ := Kd.R_elem HX21.out z55 ((ji8) : Int) (of_decide_eq_true (by with_reducible assumption)) (by have h_ : ((ji8) : Int) < ((y184.length : Int) : Int) := of_decide_eq_true (by with_reducible assumption); first | exact h_ | (have e_ := (Kd.R_reads' HO186.out).1; omega) | simpa using h_); obtain rfl := k55_openM hM21; have HP21 := Kd.R_seg HX21.out ((ji8) : Int) (of_decide_eq_true (by with_reducible assumption)) (by have h_ : ((ji8) : Int) < ((y184.length : Int) : Int) := of_decide_eq_true (by with_reducible assumption); first | exact h_ | (have e_ := (Kd.R_reads' HO186.out).1; omega) | simpa using h_) (seg := [.int .i64 ji11]) (j := 1) hcl21 hcc21 (show 2 ≤ 3 from by decide) (x' := (⟨(rd_T55 y184 (ji8)).f0, ji11, (rd_T55 y184 (ji8)).f2⟩ : S55)) (k55_mkM _ _ _ (⟨(rd_T55 y184 (ji8)).f0, ji11, (rd_T55 y184 (ji8)).f2⟩ : S55) ) (fun _ hk => hk); have hx21_1 := hcc21 1 _ rfl; (try simp only [show (k55).sz = 3 from rfl, Nat.mul_one, Nat.add_zero] at hx21_1); have hf21_1 := hfr21 1; (try simp only [show (k55).sz = 3 from rfl, Nat.mul_one, Nat.add_zero] at hf21_1); clear hcl21 hcc21 hfr21 hM21) | ((with_reducible refine gate_store (t := 2) (p := 39) rfl ?_); refine store_event (t := 2) (p := 39) (v := ?vo_w22) (w1 := (w18.setCell ⟨go12, ((ji8) : Int).toNat * 3 + 1, none⟩ (.int .i64 ji11))) ?hg ?ho ?hn ?hr ?_; (case ho => rfl); (case hg => rfl); (case hn => rfl); (case hr => first | (go_simp; done) | (go_simp; rfl)); intro w22 hw; have hg : w18.grownBy w22 (some go12) := (by rw [hw]; exact HP21.2); have hp_ : Kd.R k55 55 w22 w.heap.size (fun _ => True) (.slice (some ⟨go12, 0, none⟩) y184.length co20) y188 := (by rw [hw, Ny188.out]; exact HP21.1); clear HP21; have n1_ := Aside0.mk (hp_); have n2_ := Aside0.mk ((by rw [hw]; exact below_set (HB.out) GB12.out : Below w.heap.size w w22)); clear HO186; clear HB; have HO186 := n1_; have HB := n2_; (try clear n0_); clear n1_ n2_; clear hg hw hp_; have p189 : 0 ≤ ((ji8) : Int) := of_decide_eq_true (by with_reducible assumption); have q189 : (ji8) < (y188.length : Int) := (by have h_ : ((ji8) : Int) < ((y184.length : Int) : Int) := of_decide_eq_true (by with_reducible assumption); first | (have e_ := (Kd.R_reads' HO186.out).1; omega) | simpa only [Ny188.out, List.length_set] using h_); have ql189 : (((ji8) : Int) < ((y184.length : Int) : Int)) = True := eq_true (of_decide_eq_true (by with_reducible assumption)); obtain ⟨ad189, e189, hx189_0, hx189_1, hx189_2⟩ := at_T55 (Kd.R_reads' HO186.out).2.2 (ji8) p189 q189; obtain rfl : (⟨go12, 0, none⟩ : Addr) = ad189 := (by injection e189); (first | simp only [add_plain] at hx189_0 | simp only [add_at] at hx189_0 | simp only [Addr.add, Nat.zero_add] at hx189_0 | skip); (first | simp only [add_plain] at hx189_1 | simp only [add_at] at hx189_1 | simp only [Addr.add, Nat.zero_add] at hx189_1 | skip); (first | simp only [add_plain] at hx189_2 | simp only [add_at] at hx189_2 | simp only [Addr.add, Nat.zero_add] at hx189_2 | skip); replace p189 := eq_true p189; replace q189 := eq_true q189; have p14 : 0 ≤ ((ji8) : Int) := of_decide_eq_true (by with_reducible assumption); have q14 : ((ji8) : Int) < ((y184.length : Int) : Int) := of_decide_eq_true (by with_reducible assumption); obtain ⟨ce14, hcl14, hM14, hcc14, hfr14⟩ := Kd.R_elem HO186.out z55 ((ji8) : Int) p14 q14; obtain rfl := k55_openM hM14; have hx14_0 : w22.cell? ⟨go12, ((ji8) : Int).toNat * 3, none⟩ = some (.int .i64 ((rd_T55 y188 (ji8)).f0)) := hcc14 0 _ rfl; have hx14_1 : w22.cell? ⟨go12, ((ji8) : Int).toNat * 3 + 1, none⟩ = some (.int .i64 ((rd_T55 y188 (ji8)).f1)) := hcc14 1 _ rfl; have hx14_2 : w22.cell? ⟨go12, ((ji8) : Int).toNat * 3 + 2, none⟩ = some (.int .i64 ((rd_T55 y188 (ji8)).f2)) := hcc14 2 _ rfl; have hf14_0 : w22.frozen? ⟨go12, ((ji8) : Int).toNat * 3, none⟩ = false := hfr14 0; have hf14_1 : w22.frozen? ⟨go12, ((ji8) : Int).toNat * 3 + 1, none⟩ = false := hfr14 1; have hf14_2 : w22.frozen? ⟨go12, ((ji8) : Int).toNat * 3 + 2, none⟩ = false := hfr14 2; clear hcl14 hcc14 hfr14 hM14; replace p14 := eq_true p14; replace q14 := eq_true q14; have HX23 := Aside0.mk (show Kd.R k55 55 w22 w.heap.size (fun _ => True) (.slice (some ⟨go12, 0, none⟩) y184.length co20) y188 from (by (with_reducible repeat (first | apply rA | apply rN | apply rD)); exact HO186.out)); obtain ⟨ce23, hcl23, hM23, hcc23, hfr23⟩ := Kd.R_elem HX23.out z55 ((ji8) : Int) (of_decide_eq_true (by with_reducible assumption)) (by have h_ : ((ji8) : Int) < ((y184.length : Int) : Int) := of_decide_eq_true (by with_reducible assumption); first | exact h_ | (have e_ := (Kd.R_reads' HO186.out).1; omega) | simpa using h_); obtain rfl := k55_openM hM23; have HP23 := Kd.R_seg HX23.out ((ji8) : Int) (of_decide_eq_true (by with_reducible assumption)) (by have h_ : ((ji8) : Int) < ((y184.length : Int) : Int) := of_decide_eq_true (by with_reducible assumption); first | exact h_ | (have e_ := (Kd.R_reads' HO186.out).1; omega) | simpa using h_) (seg := [.int .i64 ji13]) (j := 2) hcl23 hcc23 (show 3 ≤ 3 from by decide) (x' := (⟨(rd_T55 y188 (ji8)).f0, (rd_T55 y188 (ji8)).f1, ji13⟩ : S55)) (k55_mkM _ _ _ (⟨(rd_T55 y188 (ji8)).f0, (rd_T55 y188 (ji8)).f1, ji13⟩ : S55) ) (fun _ hk => hk); have hx23_2 := hcc23 2 _ rfl; (try simp only [show (k55).sz = 3 from rfl, Nat.mul_one, Nat.add_zero] at hx23_2); have hf23_2 := hfr23 2; (try simp only [show (k55).sz = 3 from rfl, Nat.mul_one, Nat.add_zero] at hf23_2); clear hcl23 hcc23 hfr23 hM23) | ((with_reducible refine gate_store (t := 2) (p := 50) rfl ?_); refine store_event (t := 2) (p := 50) (v := ?vo_w24) (w1 := (w22.setCell ⟨go12, ((ji8) : Int).toNat * 3 + 2, none⟩ (.int .i64 ji13))) ?hg ?ho ?hn ?hr ?_; (case ho => rfl); (case hg => rfl); (case hn => rfl); (case hr => first | (go_simp; done) | (go_simp; rfl)); intro w24 hw; have hg : w22.grownBy w24 (some go12) := (by rw [hw]; exact HP23.2); have hp_ : Kd.R k55 55 w24 w.heap.size (fun _ => True) (.slice (some ⟨go12, 0, none⟩) y184.length co20) y190 := (by rw [hw, Ny190.out]; exact HP23.1); clear HP23; have n1_ := Aside0.mk (hp_); have n2_ := Aside0.mk ((by rw [hw]; exact below_set (HB.out) GB12.out : Below w.heap.size w w24)); clear HO186; clear HB; have HO186 := n1_; have HB := n2_; (try clear n0_); clear n1_ n2_; clear hg hw hp_))
     go_ret2
     exact ⟨_, by first | rfl | (simp [errW_none, errW_some] <;> rfl) | (simp only [← hji8, ← hji11, ← hji13]; first | rfl | (simp [errW_none, errW_some] <;> rfl)) | (simp [*, errW_none, errW_some] <;> rfl), by (with_reducible repeat (first | apply rA | apply rN | apply rD)); first | exact HO186.out | exact Kd.R_mono HO186.out (fun _ hk => trivial), by repeat (first | (with_reducible first | exact HB.out | apply lA | apply lN | apply lD) | exact HB.out)⟩
    ·
     rw [if_neg c10] at H
     exact absurd H (by simp)
   ·
    rw [if_neg c9] at H
    exact absurd H (by simp)
  ·
   rw [if_neg c7] at H
   exact absurd H (by simp)
 ·
  rw [if_neg c6] at H
  have c6b0 : (t178 == 0) = false := beq_eq_false_iff_ne.mpr c6
  have c6b1 : (t178 != 0) = true := bne_iff_ne.mpr c6
  simp only [Option.some.injEq, Prod.mk.injEq] at H
  obtain ⟨rfl, rfl⟩ := H
  go_enter Try.func37, Try.ntmps37
  go_wp2_with (first | ((with_reducible refine gate_callee (f := 62) rfl ?_); refine goesL_ (some 16) rfl rfl Try.func62 (by kernel_rfl) rfl #[.int .i64 a2] rfl (by (try simp only [List.map_toArray, List.map_cons, List.map_nil]); first | done | rfl | (go_simp; done) | simp) ?_; (with_reducible refine (impl_isSide.calls a2 t176 _ A4.out).mono ?_); rintro e w' ⟨rfl, ⟨nd, rfl⟩⟩; refine ⟨_, rfl, ?_⟩) | ((with_reducible refine gate_callee (f := 55) rfl ?_); refine goesL_ (some 17) rfl rfl Try.func55 (by kernel_rfl) rfl #[.slice A0 l0.length c0, .int .i64 a1, .bool t176] rfl (by (try simp only [List.map_toArray, List.map_cons, List.map_nil]); first | done | rfl | (go_simp; done) | simp) ?_; (with_reducible refine (layersTo_own k _ _ l0 a1 t176 t177 t178 _ ?side1 ?side2 A5.out).mono ?_); (case side1 => repeat (first | exact HR0.out | (with_reducible first | apply cA | apply cN | apply cD))); (case side2 => exact HC0.out); rintro e w25 ⟨A1_, c1_, rfl, hC_, hcc_, hb⟩; refine ⟨_, rfl, ?_⟩; clear hC_ hcc_; have n1_ := Aside0.mk (below_step (by repeat (first | (with_reducible first | exact HB.out | apply lA | apply lN | apply lD) | exact HB.out)) hb); clear HB; have HB := n1_; clear n1_; (try clear hb); (try clear hb2); (try clear hk); (try clear hi); (try clear ho0)))
  go_ret2
  exact ⟨_, by first | rfl | (simp [errW_none, errW_some] <;> rfl) | (simp [*, errW_none, errW_some] <;> rfl), by first | exact Kd.R_nil _ _ _ _ _ | exact Kd.N_nil _ _ _ _ _ | exact Kd.V_nil _ _ _ _ _ | exact Kd.Q_nil _ _ _ _ _ | exact Kd.S_nil _ _ _ _ _, by repeat (first | (with_reducible first | exact HB.out | apply lA | apply lN | apply lD) | exact HB.out)⟩

/-! ### laws_big: function 38 -/
def laws_big.f (l0 : List Int) : Option (Bool) := some (decide ((l0.length : Int) > 4096))
set_option maxHeartbeats 8000000 in
set_option maxRecDepth 100000 in
theorem laws_big.calls (A0 : Option Addr) (c0 : Nat) (l0 : List Int) (r : Bool) (w : World) (hr0 : Kd.C (Kd.int .u8) w A0 l0.length l0) (hc0 : l0.length ≤ c0) (h : laws_big.f l0 = some r) :
  Calls Try.prog 38 #[.slice A0 l0.length c0] w fun e w' => e = .returned (.bool r) ∧ Drawn0 w w' := by
 have HR0 := Aside0.mk hr0
 have HC0 := Aside0.mk hc0
 clear hr0 hc0
 have H : (some (decide ((l0.length : Int) > 4096))) = some r := h
 clear h
 obtain rfl := Option.some.inj H
 simp only [Option.some.injEq, Prod.mk.injEq] at H
 obtain ⟨rfl⟩ := H
 go_enter Try.func38, Try.ntmps38
 go_wp2
 go_ret
 exact ⟨by first | rfl | (simp; done) | (simp [*]; done), by repeat (first | exact Drawn0.refl _ | apply Drawn0.step)⟩

end Go.Proofs.Ytidibjmckgbpbaa.QFnGusts
