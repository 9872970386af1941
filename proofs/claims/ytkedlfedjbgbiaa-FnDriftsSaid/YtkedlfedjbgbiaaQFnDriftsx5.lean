-- Written by a program of this project's session, after the kit's print (a turned copy of its programs). Lean checks it.
import Derived.Test.YtkedlfedjbgbiaaQFnDriftsx0
import Derived.Test.YtkedlfedjbgbiaaQFnDriftsx1
import Derived.Test.YtkedlfedjbgbiaaQFnDriftsx2
import Derived.Test.YtkedlfedjbgbiaaQFnDriftsx3
import Derived.Test.YtkedlfedjbgbiaaQFnDriftsx4
namespace Go.Proofs.Ytkedlfedjbgbiaa.QFnDrifts
open Go.RowKit Go.Proofs.YtkedlfedjbgbiaaW.PrintWords Go.Proofs.YtkedlfedjbgbiaaW.PrintLast Go.Proofs.YtkedlfedjbgbiaaW.PrintMore
attribute [local go_sem] max2_int min2_int max_two min_two max_three min_three max_four min_four   -- for this text's walks alone
set_option linter.unusedVariables false
set_option linter.unusedSimpArgs false

/-! ### laws_FnDrifts: function 15 -/
mutual
def laws_FnDrifts.j0 : Nat → List Int → Int → Int → Int → Int → Int → Int → Int → Int → Int → Int → Int → Int → Int → Int → Bool → Option (Bool)
  | 0, _, _, _, _, _, _, _, _, _, _, _, _, _, _, _, _ => none
  | k + 1, x0, x3, x4, x5, x6, x7, x8, x9, x20, x21, x22, x23, x24, x25, x26, x145 => if x145 = true then (some false) else (if x26 = 0 then ((impl_FlightOf.f k x20).bind fun bt304 => ((laws_roll.f k x0 403).bind fun bt306 => ((laws_dice_below.f bt306.1 bt306.2.1 bt306.2.2 (wrap64 ((wrap64 (x23 - x22)) + 1))).bind fun bt310 => ((impl_DriftAt.f x21 (wrap64 (x22 + bt310.1)) bt304.1).bind fun bt313 => (if bt304.2 = 0 then (if bt313.2 = 0 then (if bt313.1 < x24 then (some false) else (if bt313.1 > x25 then (some false) else (laws_FnDrifts.j1 k x0 x3 x4 x5 x6 x7 x8 x9))) else (some false)) else (some false)))))) else (laws_FnDrifts.j1 k x0 x3 x4 x5 x6 x7 x8 x9))
def laws_FnDrifts.j1 : Nat → List Int → Int → Int → Int → Int → Int → Int → Int → Option (Bool)
  | 0, _, _, _, _, _, _, _, _ => none
  | k + 1, x0, x3, x4, x5, x6, x7, x8, x9 => if x9 = 0 then ((laws_roll.f k x0 404).bind fun bt315 => ((laws_dice_below.f bt315.1 bt315.2.1 bt315.2.2 (wrap64 ((wrap64 (x5 - x4)) + 1))).bind fun bt319 => ((impl_DriftAt.f x3 (wrap64 (x4 + bt319.1)) x6).bind fun bt322 => (if bt322.2 = 0 then (if x7 ≤ bt322.1 then (some (decide (bt322.1 ≤ x8))) else (some false)) else (some false))))) else (some true)
end
def laws_FnDrifts.f (k : Nat) (l0 : List Int) : Option (Bool) := (laws_big.f l0).bind fun t276 => (if t276 = true then (some true) else ((spec_DrawDriftRange.f k l0).bind fun bt277 => ((impl_DriftRange.f k bt277.1 bt277.2.1 bt277.2.2.1 bt277.2.2.2).bind fun bt281 => ((spec_DriftRange.f bt277.1 bt277.2.1 bt277.2.2.1 bt277.2.2.2).bind fun bt284 => ((spec_DrawDriftAt.f k l0).bind fun bt287 => ((impl_DriftAt.f bt287.1 bt287.2.1 bt287.2.2).bind fun bt290 => ((spec_DriftAt.f bt287.1 bt287.2.1 bt287.2.2).bind fun bt292 => ((spec_DrawLandingRange.f k l0).bind fun bt294 => ((impl_LandingRange.f k bt294.1 bt294.2.1 bt294.2.2.1 bt294.2.2.2).bind fun bt298 => ((spec_LandingRange.f k bt294.1 bt294.2.1 bt294.2.2.1 bt294.2.2.2).bind fun bt301 => (if bt281.2.2 = bt284.2.2 then (if bt281.1 = bt284.1 then (if bt281.2.1 = bt284.2.1 then (if bt290.2 = bt292.2 then (if bt290.1 = bt292.1 then (if bt298.2.2 = bt301.2.2 then (if bt298.1 = bt301.1 then (laws_FnDrifts.j0 k l0 bt277.1 bt277.2.1 bt277.2.2.1 bt277.2.2.2 bt281.1 bt281.2.1 bt281.2.2 bt294.1 bt294.2.1 bt294.2.2.1 bt294.2.2.2 bt298.1 bt298.2.1 bt298.2.2 (bt298.2.1 != bt301.2.1)) else (laws_FnDrifts.j0 k l0 bt277.1 bt277.2.1 bt277.2.2.1 bt277.2.2.2 bt281.1 bt281.2.1 bt281.2.2 bt294.1 bt294.2.1 bt294.2.2.1 bt294.2.2.2 bt298.1 bt298.2.1 bt298.2.2 true)) else (laws_FnDrifts.j0 k l0 bt277.1 bt277.2.1 bt277.2.2.1 bt277.2.2.2 bt281.1 bt281.2.1 bt281.2.2 bt294.1 bt294.2.1 bt294.2.2.1 bt294.2.2.2 bt298.1 bt298.2.1 bt298.2.2 true)) else (laws_FnDrifts.j0 k l0 bt277.1 bt277.2.1 bt277.2.2.1 bt277.2.2.2 bt281.1 bt281.2.1 bt281.2.2 bt294.1 bt294.2.1 bt294.2.2.1 bt294.2.2.2 bt298.1 bt298.2.1 bt298.2.2 true)) else (laws_FnDrifts.j0 k l0 bt277.1 bt277.2.1 bt277.2.2.1 bt277.2.2.2 bt281.1 bt281.2.1 bt281.2.2 bt294.1 bt294.2.1 bt294.2.2.1 bt294.2.2.2 bt298.1 bt298.2.1 bt298.2.2 true)) else (laws_FnDrifts.j0 k l0 bt277.1 bt277.2.1 bt277.2.2.1 bt277.2.2.2 bt281.1 bt281.2.1 bt281.2.2 bt294.1 bt294.2.1 bt294.2.2.1 bt294.2.2.2 bt298.1 bt298.2.1 bt298.2.2 true)) else (laws_FnDrifts.j0 k l0 bt277.1 bt277.2.1 bt277.2.2.1 bt277.2.2.2 bt281.1 bt281.2.1 bt281.2.2 bt294.1 bt294.2.1 bt294.2.2.1 bt294.2.2.2 bt298.1 bt298.2.1 bt298.2.2 true)) else (laws_FnDrifts.j0 k l0 bt277.1 bt277.2.1 bt277.2.2.1 bt277.2.2.2 bt281.1 bt281.2.1 bt281.2.2 bt294.1 bt294.2.1 bt294.2.2.1 bt294.2.2.2 bt298.1 bt298.2.1 bt298.2.2 true))))))))))))
theorem laws_FnDrifts.mono_l : ∀ k, (∀ y0 y1 y2 y3 y4 y5 y6 y7 y8 y9 y10 y11 y12 y13 y14 y15, LeO (laws_FnDrifts.j0 k y0 y1 y2 y3 y4 y5 y6 y7 y8 y9 y10 y11 y12 y13 y14 y15) (laws_FnDrifts.j0 (k + 1) y0 y1 y2 y3 y4 y5 y6 y7 y8 y9 y10 y11 y12 y13 y14 y15)) ∧ (∀ y0 y1 y2 y3 y4 y5 y6 y7, LeO (laws_FnDrifts.j1 k y0 y1 y2 y3 y4 y5 y6 y7) (laws_FnDrifts.j1 (k + 1) y0 y1 y2 y3 y4 y5 y6 y7))
  | 0 => ⟨fun _ _ _ _ _ _ _ _ _ _ _ _ _ _ _ _ r h => by simp [laws_FnDrifts.j0] at h, fun _ _ _ _ _ _ _ _ r h => by simp [laws_FnDrifts.j1] at h⟩
  | k + 1 => by
    obtain ⟨ih0, ih1⟩ := laws_FnDrifts.mono_l k
    refine ⟨?_, ?_⟩
    · intro y0 y1 y2 y3 y4 y5 y6 y7 y8 y9 y10 y11 y12 y13 y14 y15
      unfold laws_FnDrifts.j0
      repeat' first
      | (with_reducible exact ih0 _ _ _ _ _ _ _ _ _ _ _ _ _ _ _ _)
      | (with_reducible exact ih1 _ _ _ _ _ _ _ _)
      | (with_reducible exact impl_DriftRange.mono _ _ _ _ _)
      | (with_reducible exact impl_FlightOf.mono _ _)
      | (with_reducible exact impl_LandingRange.mono _ _ _ _ _)
      | (with_reducible exact laws_roll.mono _ _ _)
      | (with_reducible exact spec_DrawDriftAt.mono _ _)
      | (with_reducible exact spec_DrawDriftRange.mono _ _)
      | (with_reducible exact spec_DrawLandingRange.mono _ _)
      | (with_reducible exact spec_LandingRange.mono _ _ _ _ _)
      | (with_reducible exact LeO.refl _)
      | (with_reducible exact LeO.none _)
      | (with_reducible refine LeO.ite ?_ ?_)
      | (with_reducible refine LeO.bind ?_ (fun _ => ?_))
      | exact ih0 _ _ _ _ _ _ _ _ _ _ _ _ _ _ _ _
      | exact ih1 _ _ _ _ _ _ _ _
      | exact impl_DriftRange.mono _ _ _ _ _
      | exact impl_FlightOf.mono _ _
      | exact impl_LandingRange.mono _ _ _ _ _
      | exact laws_roll.mono _ _ _
      | exact spec_DrawDriftAt.mono _ _
      | exact spec_DrawDriftRange.mono _ _
      | exact spec_DrawLandingRange.mono _ _
      | exact spec_LandingRange.mono _ _ _ _ _
      | exact LeO.none _
      | refine LeO.ite ?_ ?_
      | refine LeO.bind ?_ (fun _ => ?_)
    · intro y0 y1 y2 y3 y4 y5 y6 y7
      unfold laws_FnDrifts.j1
      repeat' first
      | (with_reducible exact ih0 _ _ _ _ _ _ _ _ _ _ _ _ _ _ _ _)
      | (with_reducible exact ih1 _ _ _ _ _ _ _ _)
      | (with_reducible exact impl_DriftRange.mono _ _ _ _ _)
      | (with_reducible exact impl_FlightOf.mono _ _)
      | (with_reducible exact impl_LandingRange.mono _ _ _ _ _)
      | (with_reducible exact laws_roll.mono _ _ _)
      | (with_reducible exact spec_DrawDriftAt.mono _ _)
      | (with_reducible exact spec_DrawDriftRange.mono _ _)
      | (with_reducible exact spec_DrawLandingRange.mono _ _)
      | (with_reducible exact spec_LandingRange.mono _ _ _ _ _)
      | (with_reducible exact LeO.refl _)
      | (with_reducible exact LeO.none _)
      | (with_reducible refine LeO.ite ?_ ?_)
      | (with_reducible refine LeO.bind ?_ (fun _ => ?_))
      | exact ih0 _ _ _ _ _ _ _ _ _ _ _ _ _ _ _ _
      | exact ih1 _ _ _ _ _ _ _ _
      | exact impl_DriftRange.mono _ _ _ _ _
      | exact impl_FlightOf.mono _ _
      | exact impl_LandingRange.mono _ _ _ _ _
      | exact laws_roll.mono _ _ _
      | exact spec_DrawDriftAt.mono _ _
      | exact spec_DrawDriftRange.mono _ _
      | exact spec_DrawLandingRange.mono _ _
      | exact spec_LandingRange.mono _ _ _ _ _
      | exact LeO.none _
      | refine LeO.ite ?_ ?_
      | refine LeO.bind ?_ (fun _ => ?_)
theorem laws_FnDrifts.mono : ∀ a0 k, LeO (laws_FnDrifts.f k a0) (laws_FnDrifts.f (k + 1) a0) := by
  intro a0 k
  obtain ⟨ih0, ih1⟩ := laws_FnDrifts.mono_l k
  unfold laws_FnDrifts.f
  repeat' first
      | (with_reducible exact ih0 _ _ _ _ _ _ _ _ _ _ _ _ _ _ _ _)
      | (with_reducible exact ih1 _ _ _ _ _ _ _ _)
      | (with_reducible exact impl_DriftRange.mono _ _ _ _ _)
      | (with_reducible exact impl_FlightOf.mono _ _)
      | (with_reducible exact impl_LandingRange.mono _ _ _ _ _)
      | (with_reducible exact laws_roll.mono _ _ _)
      | (with_reducible exact spec_DrawDriftAt.mono _ _)
      | (with_reducible exact spec_DrawDriftRange.mono _ _)
      | (with_reducible exact spec_DrawLandingRange.mono _ _)
      | (with_reducible exact spec_LandingRange.mono _ _ _ _ _)
      | (with_reducible exact LeO.refl _)
      | (with_reducible exact LeO.none _)
      | (with_reducible refine LeO.ite ?_ ?_)
      | (with_reducible refine LeO.bind ?_ (fun _ => ?_))
      | exact ih0 _ _ _ _ _ _ _ _ _ _ _ _ _ _ _ _
      | exact ih1 _ _ _ _ _ _ _ _
      | exact impl_DriftRange.mono _ _ _ _ _
      | exact impl_FlightOf.mono _ _
      | exact impl_LandingRange.mono _ _ _ _ _
      | exact laws_roll.mono _ _ _
      | exact spec_DrawDriftAt.mono _ _
      | exact spec_DrawDriftRange.mono _ _
      | exact spec_DrawLandingRange.mono _ _
      | exact spec_LandingRange.mono _ _ _ _ _
      | exact LeO.none _
      | refine LeO.ite ?_ ?_
      | refine LeO.bind ?_ (fun _ => ?_)
set_option maxHeartbeats 8000000 in
set_option maxRecDepth 100000 in
theorem laws_FnDrifts.calls (k : Nat) (A0 : Option Addr) (c0 : Nat) (l0 : List Int) (r : Bool) (w : World) (hr0 : Kd.C (Kd.int .u8) w A0 l0.length l0) (hc0 : l0.length ≤ c0) (h : laws_FnDrifts.f k l0 = some r) (hr_ : Aside0 (r = true)) :
    Calls Try.prog 15 #[.slice A0 l0.length c0] w fun e w' => e = .returned (.bool r) ∧ Below w.heap.size w w' := by
  have HR0 := Aside0.mk hr0
  have HC0 := Aside0.mk hc0
  clear hr0 hc0
  have HB := Aside0.mk (Below.refl w.heap.size w)
  have H : ((laws_big.f l0).bind fun t276 => (if t276 = true then (some true) else ((spec_DrawDriftRange.f k l0).bind fun bt277 => ((impl_DriftRange.f k bt277.1 bt277.2.1 bt277.2.2.1 bt277.2.2.2).bind fun bt281 => ((spec_DriftRange.f bt277.1 bt277.2.1 bt277.2.2.1 bt277.2.2.2).bind fun bt284 => ((spec_DrawDriftAt.f k l0).bind fun bt287 => ((impl_DriftAt.f bt287.1 bt287.2.1 bt287.2.2).bind fun bt290 => ((spec_DriftAt.f bt287.1 bt287.2.1 bt287.2.2).bind fun bt292 => ((spec_DrawLandingRange.f k l0).bind fun bt294 => ((impl_LandingRange.f k bt294.1 bt294.2.1 bt294.2.2.1 bt294.2.2.2).bind fun bt298 => ((spec_LandingRange.f k bt294.1 bt294.2.1 bt294.2.2.1 bt294.2.2.2).bind fun bt301 => (if bt281.2.2 = bt284.2.2 then (if bt281.1 = bt284.1 then (if bt281.2.1 = bt284.2.1 then (if bt290.2 = bt292.2 then (if bt290.1 = bt292.1 then (if bt298.2.2 = bt301.2.2 then (if bt298.1 = bt301.1 then (laws_FnDrifts.j0 k l0 bt277.1 bt277.2.1 bt277.2.2.1 bt277.2.2.2 bt281.1 bt281.2.1 bt281.2.2 bt294.1 bt294.2.1 bt294.2.2.1 bt294.2.2.2 bt298.1 bt298.2.1 bt298.2.2 (bt298.2.1 != bt301.2.1)) else (laws_FnDrifts.j0 k l0 bt277.1 bt277.2.1 bt277.2.2.1 bt277.2.2.2 bt281.1 bt281.2.1 bt281.2.2 bt294.1 bt294.2.1 bt294.2.2.1 bt294.2.2.2 bt298.1 bt298.2.1 bt298.2.2 true)) else (laws_FnDrifts.j0 k l0 bt277.1 bt277.2.1 bt277.2.2.1 bt277.2.2.2 bt281.1 bt281.2.1 bt281.2.2 bt294.1 bt294.2.1 bt294.2.2.1 bt294.2.2.2 bt298.1 bt298.2.1 bt298.2.2 true)) else (laws_FnDrifts.j0 k l0 bt277.1 bt277.2.1 bt277.2.2.1 bt277.2.2.2 bt281.1 bt281.2.1 bt281.2.2 bt294.1 bt294.2.1 bt294.2.2.1 bt294.2.2.2 bt298.1 bt298.2.1 bt298.2.2 true)) else (laws_FnDrifts.j0 k l0 bt277.1 bt277.2.1 bt277.2.2.1 bt277.2.2.2 bt281.1 bt281.2.1 bt281.2.2 bt294.1 bt294.2.1 bt294.2.2.1 bt294.2.2.2 bt298.1 bt298.2.1 bt298.2.2 true)) else (laws_FnDrifts.j0 k l0 bt277.1 bt277.2.1 bt277.2.2.1 bt277.2.2.2 bt281.1 bt281.2.1 bt281.2.2 bt294.1 bt294.2.1 bt294.2.2.1 bt294.2.2.2 bt298.1 bt298.2.1 bt298.2.2 true)) else (laws_FnDrifts.j0 k l0 bt277.1 bt277.2.1 bt277.2.2.1 bt277.2.2.2 bt281.1 bt281.2.1 bt281.2.2 bt294.1 bt294.2.1 bt294.2.2.1 bt294.2.2.2 bt298.1 bt298.2.1 bt298.2.2 true)) else (laws_FnDrifts.j0 k l0 bt277.1 bt277.2.1 bt277.2.2.1 bt277.2.2.2 bt281.1 bt281.2.1 bt281.2.2 bt294.1 bt294.2.1 bt294.2.2.1 bt294.2.2.2 bt298.1 bt298.2.1 bt298.2.2 true))))))))))))) = some r := h
  clear h
  replace H := Option.bind_eq_some_iff.mp H
  obtain ⟨t276, A20, H⟩ := H
  replace H : (if t276 = true then (some true) else ((spec_DrawDriftRange.f k l0).bind fun bt277 => ((impl_DriftRange.f k bt277.1 bt277.2.1 bt277.2.2.1 bt277.2.2.2).bind fun bt281 => ((spec_DriftRange.f bt277.1 bt277.2.1 bt277.2.2.1 bt277.2.2.2).bind fun bt284 => ((spec_DrawDriftAt.f k l0).bind fun bt287 => ((impl_DriftAt.f bt287.1 bt287.2.1 bt287.2.2).bind fun bt290 => ((spec_DriftAt.f bt287.1 bt287.2.1 bt287.2.2).bind fun bt292 => ((spec_DrawLandingRange.f k l0).bind fun bt294 => ((impl_LandingRange.f k bt294.1 bt294.2.1 bt294.2.2.1 bt294.2.2.2).bind fun bt298 => ((spec_LandingRange.f k bt294.1 bt294.2.1 bt294.2.2.1 bt294.2.2.2).bind fun bt301 => (if bt281.2.2 = bt284.2.2 then (if bt281.1 = bt284.1 then (if bt281.2.1 = bt284.2.1 then (if bt290.2 = bt292.2 then (if bt290.1 = bt292.1 then (if bt298.2.2 = bt301.2.2 then (if bt298.1 = bt301.1 then (laws_FnDrifts.j0 k l0 bt277.1 bt277.2.1 bt277.2.2.1 bt277.2.2.2 bt281.1 bt281.2.1 bt281.2.2 bt294.1 bt294.2.1 bt294.2.2.1 bt294.2.2.2 bt298.1 bt298.2.1 bt298.2.2 (bt298.2.1 != bt301.2.1)) else (laws_FnDrifts.j0 k l0 bt277.1 bt277.2.1 bt277.2.2.1 bt277.2.2.2 bt281.1 bt281.2.1 bt281.2.2 bt294.1 bt294.2.1 bt294.2.2.1 bt294.2.2.2 bt298.1 bt298.2.1 bt298.2.2 true)) else (laws_FnDrifts.j0 k l0 bt277.1 bt277.2.1 bt277.2.2.1 bt277.2.2.2 bt281.1 bt281.2.1 bt281.2.2 bt294.1 bt294.2.1 bt294.2.2.1 bt294.2.2.2 bt298.1 bt298.2.1 bt298.2.2 true)) else (laws_FnDrifts.j0 k l0 bt277.1 bt277.2.1 bt277.2.2.1 bt277.2.2.2 bt281.1 bt281.2.1 bt281.2.2 bt294.1 bt294.2.1 bt294.2.2.1 bt294.2.2.2 bt298.1 bt298.2.1 bt298.2.2 true)) else (laws_FnDrifts.j0 k l0 bt277.1 bt277.2.1 bt277.2.2.1 bt277.2.2.2 bt281.1 bt281.2.1 bt281.2.2 bt294.1 bt294.2.1 bt294.2.2.1 bt294.2.2.2 bt298.1 bt298.2.1 bt298.2.2 true)) else (laws_FnDrifts.j0 k l0 bt277.1 bt277.2.1 bt277.2.2.1 bt277.2.2.2 bt281.1 bt281.2.1 bt281.2.2 bt294.1 bt294.2.1 bt294.2.2.1 bt294.2.2.2 bt298.1 bt298.2.1 bt298.2.2 true)) else (laws_FnDrifts.j0 k l0 bt277.1 bt277.2.1 bt277.2.2.1 bt277.2.2.2 bt281.1 bt281.2.1 bt281.2.2 bt294.1 bt294.2.1 bt294.2.2.1 bt294.2.2.2 bt298.1 bt298.2.1 bt298.2.2 true)) else (laws_FnDrifts.j0 k l0 bt277.1 bt277.2.1 bt277.2.2.1 bt277.2.2.2 bt281.1 bt281.2.1 bt281.2.2 bt294.1 bt294.2.1 bt294.2.2.1 bt294.2.2.2 bt298.1 bt298.2.1 bt298.2.2 true)))))))))))) = some r := H
  have A2 := Aside0.mk A20
  clear A20
  by_cases c3 : t276 = true
  · subst c3
    have H1 : (some true) = some r := by rw [if_pos rfl] at H; exact H
    clear H
    have H := H1
    clear H1
    obtain rfl := Option.some.inj H
    simp only [Option.some.injEq, Prod.mk.injEq] at H
    obtain ⟨rfl⟩ := H
    go_enter Try.func15, Try.ntmps15
    go_wp2_with (first | ((with_reducible refine gate_callee (f := 36) rfl ?_); refine goesL_ (some 37) rfl rfl Try.func36 (by kernel_rfl) rfl #[.slice A0 l0.length c0] rfl (by (try simp only [List.map_toArray, List.map_cons, List.map_nil]); first | done | rfl | (simp only [List.length_drop, List.length_take]; rfl) | (simp; done) | (simp; rfl)) ?_; (with_reducible refine (laws_big.calls _ _ l0 true _ ?side1 ?side2 A2.out).mono ?_); (case side1 => repeat (first | exact HR0.out | (with_reducible refine Kd.C_alloc ?_ _) | (with_reducible refine Kd.C_drewN ?_ _) | (with_reducible refine Kd.C_drew ?_))); (case side2 => exact HC0.out); rintro e w' ⟨rfl, ⟨nd, rfl⟩⟩; refine ⟨_, rfl, ?_⟩))
    go_ret
    exact ⟨by first | rfl | (simp [errW_none, errW_some] <;> rfl) | (simp [*, errW_none, errW_some] <;> rfl), by repeat (first | (with_reducible first | exact HB.out | apply below_alloc | apply pw_below_drewN | apply below_drew1) | exact HB.out)⟩
  · replace c3 := Bool.eq_false_iff.mpr c3
    subst c3
    have H1 : ((spec_DrawDriftRange.f k l0).bind fun bt277 => ((impl_DriftRange.f k bt277.1 bt277.2.1 bt277.2.2.1 bt277.2.2.2).bind fun bt281 => ((spec_DriftRange.f bt277.1 bt277.2.1 bt277.2.2.1 bt277.2.2.2).bind fun bt284 => ((spec_DrawDriftAt.f k l0).bind fun bt287 => ((impl_DriftAt.f bt287.1 bt287.2.1 bt287.2.2).bind fun bt290 => ((spec_DriftAt.f bt287.1 bt287.2.1 bt287.2.2).bind fun bt292 => ((spec_DrawLandingRange.f k l0).bind fun bt294 => ((impl_LandingRange.f k bt294.1 bt294.2.1 bt294.2.2.1 bt294.2.2.2).bind fun bt298 => ((spec_LandingRange.f k bt294.1 bt294.2.1 bt294.2.2.1 bt294.2.2.2).bind fun bt301 => (if bt281.2.2 = bt284.2.2 then (if bt281.1 = bt284.1 then (if bt281.2.1 = bt284.2.1 then (if bt290.2 = bt292.2 then (if bt290.1 = bt292.1 then (if bt298.2.2 = bt301.2.2 then (if bt298.1 = bt301.1 then (laws_FnDrifts.j0 k l0 bt277.1 bt277.2.1 bt277.2.2.1 bt277.2.2.2 bt281.1 bt281.2.1 bt281.2.2 bt294.1 bt294.2.1 bt294.2.2.1 bt294.2.2.2 bt298.1 bt298.2.1 bt298.2.2 (bt298.2.1 != bt301.2.1)) else (laws_FnDrifts.j0 k l0 bt277.1 bt277.2.1 bt277.2.2.1 bt277.2.2.2 bt281.1 bt281.2.1 bt281.2.2 bt294.1 bt294.2.1 bt294.2.2.1 bt294.2.2.2 bt298.1 bt298.2.1 bt298.2.2 true)) else (laws_FnDrifts.j0 k l0 bt277.1 bt277.2.1 bt277.2.2.1 bt277.2.2.2 bt281.1 bt281.2.1 bt281.2.2 bt294.1 bt294.2.1 bt294.2.2.1 bt294.2.2.2 bt298.1 bt298.2.1 bt298.2.2 true)) else (laws_FnDrifts.j0 k l0 bt277.1 bt277.2.1 bt277.2.2.1 bt277.2.2.2 bt281.1 bt281.2.1 bt281.2.2 bt294.1 bt294.2.1 bt294.2.2.1 bt294.2.2.2 bt298.1 bt298.2.1 bt298.2.2 true)) else (laws_FnDrifts.j0 k l0 bt277.1 bt277.2.1 bt277.2.2.1 bt277.2.2.2 bt281.1 bt281.2.1 bt281.2.2 bt294.1 bt294.2.1 bt294.2.2.1 bt294.2.2.2 bt298.1 bt298.2.1 bt298.2.2 true)) else (laws_FnDrifts.j0 k l0 bt277.1 bt277.2.1 bt277.2.2.1 bt277.2.2.2 bt281.1 bt281.2.1 bt281.2.2 bt294.1 bt294.2.1 bt294.2.2.1 bt294.2.2.2 bt298.1 bt298.2.1 bt298.2.2 true)) else (laws_FnDrifts.j0 k l0 bt277.1 bt277.2.1 bt277.2.2.1 bt277.2.2.2 bt281.1 bt281.2.1 bt281.2.2 bt294.1 bt294.2.1 bt294.2.2.1 bt294.2.2.2 bt298.1 bt298.2.1 bt298.2.2 true)) else (laws_FnDrifts.j0 k l0 bt277.1 bt277.2.1 bt277.2.2.1 bt277.2.2.2 bt281.1 bt281.2.1 bt281.2.2 bt294.1 bt294.2.1 bt294.2.2.1 bt294.2.2.2 bt298.1 bt298.2.1 bt298.2.2 true))))))))))) = some r := by rw [if_neg (show ¬ (false = true) by decide)] at H; exact H
    clear H
    have H := H1
    clear H1
    replace H := Option.bind_eq_some_iff.mp H
    obtain ⟨⟨t277, t278, t279, t280⟩, A40, H⟩ := H
    replace H : ((impl_DriftRange.f k t277 t278 t279 t280).bind fun bt281 => ((spec_DriftRange.f t277 t278 t279 t280).bind fun bt284 => ((spec_DrawDriftAt.f k l0).bind fun bt287 => ((impl_DriftAt.f bt287.1 bt287.2.1 bt287.2.2).bind fun bt290 => ((spec_DriftAt.f bt287.1 bt287.2.1 bt287.2.2).bind fun bt292 => ((spec_DrawLandingRange.f k l0).bind fun bt294 => ((impl_LandingRange.f k bt294.1 bt294.2.1 bt294.2.2.1 bt294.2.2.2).bind fun bt298 => ((spec_LandingRange.f k bt294.1 bt294.2.1 bt294.2.2.1 bt294.2.2.2).bind fun bt301 => (if bt281.2.2 = bt284.2.2 then (if bt281.1 = bt284.1 then (if bt281.2.1 = bt284.2.1 then (if bt290.2 = bt292.2 then (if bt290.1 = bt292.1 then (if bt298.2.2 = bt301.2.2 then (if bt298.1 = bt301.1 then (laws_FnDrifts.j0 k l0 t277 t278 t279 t280 bt281.1 bt281.2.1 bt281.2.2 bt294.1 bt294.2.1 bt294.2.2.1 bt294.2.2.2 bt298.1 bt298.2.1 bt298.2.2 (bt298.2.1 != bt301.2.1)) else (laws_FnDrifts.j0 k l0 t277 t278 t279 t280 bt281.1 bt281.2.1 bt281.2.2 bt294.1 bt294.2.1 bt294.2.2.1 bt294.2.2.2 bt298.1 bt298.2.1 bt298.2.2 true)) else (laws_FnDrifts.j0 k l0 t277 t278 t279 t280 bt281.1 bt281.2.1 bt281.2.2 bt294.1 bt294.2.1 bt294.2.2.1 bt294.2.2.2 bt298.1 bt298.2.1 bt298.2.2 true)) else (laws_FnDrifts.j0 k l0 t277 t278 t279 t280 bt281.1 bt281.2.1 bt281.2.2 bt294.1 bt294.2.1 bt294.2.2.1 bt294.2.2.2 bt298.1 bt298.2.1 bt298.2.2 true)) else (laws_FnDrifts.j0 k l0 t277 t278 t279 t280 bt281.1 bt281.2.1 bt281.2.2 bt294.1 bt294.2.1 bt294.2.2.1 bt294.2.2.2 bt298.1 bt298.2.1 bt298.2.2 true)) else (laws_FnDrifts.j0 k l0 t277 t278 t279 t280 bt281.1 bt281.2.1 bt281.2.2 bt294.1 bt294.2.1 bt294.2.2.1 bt294.2.2.2 bt298.1 bt298.2.1 bt298.2.2 true)) else (laws_FnDrifts.j0 k l0 t277 t278 t279 t280 bt281.1 bt281.2.1 bt281.2.2 bt294.1 bt294.2.1 bt294.2.2.1 bt294.2.2.2 bt298.1 bt298.2.1 bt298.2.2 true)) else (laws_FnDrifts.j0 k l0 t277 t278 t279 t280 bt281.1 bt281.2.1 bt281.2.2 bt294.1 bt294.2.1 bt294.2.2.1 bt294.2.2.2 bt298.1 bt298.2.1 bt298.2.2 true)))))))))) = some r := H
    have A4 := Aside0.mk A40
    clear A40
    replace H := Option.bind_eq_some_iff.mp H
    obtain ⟨⟨t281, t282, t283⟩, A50, H⟩ := H
    replace H : ((spec_DriftRange.f t277 t278 t279 t280).bind fun bt284 => ((spec_DrawDriftAt.f k l0).bind fun bt287 => ((impl_DriftAt.f bt287.1 bt287.2.1 bt287.2.2).bind fun bt290 => ((spec_DriftAt.f bt287.1 bt287.2.1 bt287.2.2).bind fun bt292 => ((spec_DrawLandingRange.f k l0).bind fun bt294 => ((impl_LandingRange.f k bt294.1 bt294.2.1 bt294.2.2.1 bt294.2.2.2).bind fun bt298 => ((spec_LandingRange.f k bt294.1 bt294.2.1 bt294.2.2.1 bt294.2.2.2).bind fun bt301 => (if t283 = bt284.2.2 then (if t281 = bt284.1 then (if t282 = bt284.2.1 then (if bt290.2 = bt292.2 then (if bt290.1 = bt292.1 then (if bt298.2.2 = bt301.2.2 then (if bt298.1 = bt301.1 then (laws_FnDrifts.j0 k l0 t277 t278 t279 t280 t281 t282 t283 bt294.1 bt294.2.1 bt294.2.2.1 bt294.2.2.2 bt298.1 bt298.2.1 bt298.2.2 (bt298.2.1 != bt301.2.1)) else (laws_FnDrifts.j0 k l0 t277 t278 t279 t280 t281 t282 t283 bt294.1 bt294.2.1 bt294.2.2.1 bt294.2.2.2 bt298.1 bt298.2.1 bt298.2.2 true)) else (laws_FnDrifts.j0 k l0 t277 t278 t279 t280 t281 t282 t283 bt294.1 bt294.2.1 bt294.2.2.1 bt294.2.2.2 bt298.1 bt298.2.1 bt298.2.2 true)) else (laws_FnDrifts.j0 k l0 t277 t278 t279 t280 t281 t282 t283 bt294.1 bt294.2.1 bt294.2.2.1 bt294.2.2.2 bt298.1 bt298.2.1 bt298.2.2 true)) else (laws_FnDrifts.j0 k l0 t277 t278 t279 t280 t281 t282 t283 bt294.1 bt294.2.1 bt294.2.2.1 bt294.2.2.2 bt298.1 bt298.2.1 bt298.2.2 true)) else (laws_FnDrifts.j0 k l0 t277 t278 t279 t280 t281 t282 t283 bt294.1 bt294.2.1 bt294.2.2.1 bt294.2.2.2 bt298.1 bt298.2.1 bt298.2.2 true)) else (laws_FnDrifts.j0 k l0 t277 t278 t279 t280 t281 t282 t283 bt294.1 bt294.2.1 bt294.2.2.1 bt294.2.2.2 bt298.1 bt298.2.1 bt298.2.2 true)) else (laws_FnDrifts.j0 k l0 t277 t278 t279 t280 t281 t282 t283 bt294.1 bt294.2.1 bt294.2.2.1 bt294.2.2.2 bt298.1 bt298.2.1 bt298.2.2 true))))))))) = some r := H
    have A5 := Aside0.mk A50
    clear A50
    replace H := Option.bind_eq_some_iff.mp H
    obtain ⟨⟨t284, t285, t286⟩, A60, H⟩ := H
    replace H : ((spec_DrawDriftAt.f k l0).bind fun bt287 => ((impl_DriftAt.f bt287.1 bt287.2.1 bt287.2.2).bind fun bt290 => ((spec_DriftAt.f bt287.1 bt287.2.1 bt287.2.2).bind fun bt292 => ((spec_DrawLandingRange.f k l0).bind fun bt294 => ((impl_LandingRange.f k bt294.1 bt294.2.1 bt294.2.2.1 bt294.2.2.2).bind fun bt298 => ((spec_LandingRange.f k bt294.1 bt294.2.1 bt294.2.2.1 bt294.2.2.2).bind fun bt301 => (if t283 = t286 then (if t281 = t284 then (if t282 = t285 then (if bt290.2 = bt292.2 then (if bt290.1 = bt292.1 then (if bt298.2.2 = bt301.2.2 then (if bt298.1 = bt301.1 then (laws_FnDrifts.j0 k l0 t277 t278 t279 t280 t281 t282 t283 bt294.1 bt294.2.1 bt294.2.2.1 bt294.2.2.2 bt298.1 bt298.2.1 bt298.2.2 (bt298.2.1 != bt301.2.1)) else (laws_FnDrifts.j0 k l0 t277 t278 t279 t280 t281 t282 t283 bt294.1 bt294.2.1 bt294.2.2.1 bt294.2.2.2 bt298.1 bt298.2.1 bt298.2.2 true)) else (laws_FnDrifts.j0 k l0 t277 t278 t279 t280 t281 t282 t283 bt294.1 bt294.2.1 bt294.2.2.1 bt294.2.2.2 bt298.1 bt298.2.1 bt298.2.2 true)) else (laws_FnDrifts.j0 k l0 t277 t278 t279 t280 t281 t282 t283 bt294.1 bt294.2.1 bt294.2.2.1 bt294.2.2.2 bt298.1 bt298.2.1 bt298.2.2 true)) else (laws_FnDrifts.j0 k l0 t277 t278 t279 t280 t281 t282 t283 bt294.1 bt294.2.1 bt294.2.2.1 bt294.2.2.2 bt298.1 bt298.2.1 bt298.2.2 true)) else (laws_FnDrifts.j0 k l0 t277 t278 t279 t280 t281 t282 t283 bt294.1 bt294.2.1 bt294.2.2.1 bt294.2.2.2 bt298.1 bt298.2.1 bt298.2.2 true)) else (laws_FnDrifts.j0 k l0 t277 t278 t279 t280 t281 t282 t283 bt294.1 bt294.2.1 bt294.2.2.1 bt294.2.2.2 bt298.1 bt298.2.1 bt298.2.2 true)) else (laws_FnDrifts.j0 k l0 t277 t278 t279 t280 t281 t282 t283 bt294.1 bt294.2.1 bt294.2.2.1 bt294.2.2.2 bt298.1 bt298.2.1 bt298.2.2 true)))))))) = some r := H
    have A6 := Aside0.mk A60
    clear A60
    replace H := Option.bind_eq_some_iff.mp H
    obtain ⟨⟨t287, t288, t289⟩, A70, H⟩ := H
    replace H : ((impl_DriftAt.f t287 t288 t289).bind fun bt290 => ((spec_DriftAt.f t287 t288 t289).bind fun bt292 => ((spec_DrawLandingRange.f k l0).bind fun bt294 => ((impl_LandingRange.f k bt294.1 bt294.2.1 bt294.2.2.1 bt294.2.2.2).bind fun bt298 => ((spec_LandingRange.f k bt294.1 bt294.2.1 bt294.2.2.1 bt294.2.2.2).bind fun bt301 => (if t283 = t286 then (if t281 = t284 then (if t282 = t285 then (if bt290.2 = bt292.2 then (if bt290.1 = bt292.1 then (if bt298.2.2 = bt301.2.2 then (if bt298.1 = bt301.1 then (laws_FnDrifts.j0 k l0 t277 t278 t279 t280 t281 t282 t283 bt294.1 bt294.2.1 bt294.2.2.1 bt294.2.2.2 bt298.1 bt298.2.1 bt298.2.2 (bt298.2.1 != bt301.2.1)) else (laws_FnDrifts.j0 k l0 t277 t278 t279 t280 t281 t282 t283 bt294.1 bt294.2.1 bt294.2.2.1 bt294.2.2.2 bt298.1 bt298.2.1 bt298.2.2 true)) else (laws_FnDrifts.j0 k l0 t277 t278 t279 t280 t281 t282 t283 bt294.1 bt294.2.1 bt294.2.2.1 bt294.2.2.2 bt298.1 bt298.2.1 bt298.2.2 true)) else (laws_FnDrifts.j0 k l0 t277 t278 t279 t280 t281 t282 t283 bt294.1 bt294.2.1 bt294.2.2.1 bt294.2.2.2 bt298.1 bt298.2.1 bt298.2.2 true)) else (laws_FnDrifts.j0 k l0 t277 t278 t279 t280 t281 t282 t283 bt294.1 bt294.2.1 bt294.2.2.1 bt294.2.2.2 bt298.1 bt298.2.1 bt298.2.2 true)) else (laws_FnDrifts.j0 k l0 t277 t278 t279 t280 t281 t282 t283 bt294.1 bt294.2.1 bt294.2.2.1 bt294.2.2.2 bt298.1 bt298.2.1 bt298.2.2 true)) else (laws_FnDrifts.j0 k l0 t277 t278 t279 t280 t281 t282 t283 bt294.1 bt294.2.1 bt294.2.2.1 bt294.2.2.2 bt298.1 bt298.2.1 bt298.2.2 true)) else (laws_FnDrifts.j0 k l0 t277 t278 t279 t280 t281 t282 t283 bt294.1 bt294.2.1 bt294.2.2.1 bt294.2.2.2 bt298.1 bt298.2.1 bt298.2.2 true))))))) = some r := H
    have A7 := Aside0.mk A70
    clear A70
    replace H := Option.bind_eq_some_iff.mp H
    obtain ⟨⟨t290, t291⟩, A80, H⟩ := H
    replace H : ((spec_DriftAt.f t287 t288 t289).bind fun bt292 => ((spec_DrawLandingRange.f k l0).bind fun bt294 => ((impl_LandingRange.f k bt294.1 bt294.2.1 bt294.2.2.1 bt294.2.2.2).bind fun bt298 => ((spec_LandingRange.f k bt294.1 bt294.2.1 bt294.2.2.1 bt294.2.2.2).bind fun bt301 => (if t283 = t286 then (if t281 = t284 then (if t282 = t285 then (if t291 = bt292.2 then (if t290 = bt292.1 then (if bt298.2.2 = bt301.2.2 then (if bt298.1 = bt301.1 then (laws_FnDrifts.j0 k l0 t277 t278 t279 t280 t281 t282 t283 bt294.1 bt294.2.1 bt294.2.2.1 bt294.2.2.2 bt298.1 bt298.2.1 bt298.2.2 (bt298.2.1 != bt301.2.1)) else (laws_FnDrifts.j0 k l0 t277 t278 t279 t280 t281 t282 t283 bt294.1 bt294.2.1 bt294.2.2.1 bt294.2.2.2 bt298.1 bt298.2.1 bt298.2.2 true)) else (laws_FnDrifts.j0 k l0 t277 t278 t279 t280 t281 t282 t283 bt294.1 bt294.2.1 bt294.2.2.1 bt294.2.2.2 bt298.1 bt298.2.1 bt298.2.2 true)) else (laws_FnDrifts.j0 k l0 t277 t278 t279 t280 t281 t282 t283 bt294.1 bt294.2.1 bt294.2.2.1 bt294.2.2.2 bt298.1 bt298.2.1 bt298.2.2 true)) else (laws_FnDrifts.j0 k l0 t277 t278 t279 t280 t281 t282 t283 bt294.1 bt294.2.1 bt294.2.2.1 bt294.2.2.2 bt298.1 bt298.2.1 bt298.2.2 true)) else (laws_FnDrifts.j0 k l0 t277 t278 t279 t280 t281 t282 t283 bt294.1 bt294.2.1 bt294.2.2.1 bt294.2.2.2 bt298.1 bt298.2.1 bt298.2.2 true)) else (laws_FnDrifts.j0 k l0 t277 t278 t279 t280 t281 t282 t283 bt294.1 bt294.2.1 bt294.2.2.1 bt294.2.2.2 bt298.1 bt298.2.1 bt298.2.2 true)) else (laws_FnDrifts.j0 k l0 t277 t278 t279 t280 t281 t282 t283 bt294.1 bt294.2.1 bt294.2.2.1 bt294.2.2.2 bt298.1 bt298.2.1 bt298.2.2 true)))))) = some r := H
    have A8 := Aside0.mk A80
    clear A80
    replace H := Option.bind_eq_some_iff.mp H
    obtain ⟨⟨t292, t293⟩, A90, H⟩ := H
    replace H : ((spec_DrawLandingRange.f k l0).bind fun bt294 => ((impl_LandingRange.f k bt294.1 bt294.2.1 bt294.2.2.1 bt294.2.2.2).bind fun bt298 => ((spec_LandingRange.f k bt294.1 bt294.2.1 bt294.2.2.1 bt294.2.2.2).bind fun bt301 => (if t283 = t286 then (if t281 = t284 then (if t282 = t285 then (if t291 = t293 then (if t290 = t292 then (if bt298.2.2 = bt301.2.2 then (if bt298.1 = bt301.1 then (laws_FnDrifts.j0 k l0 t277 t278 t279 t280 t281 t282 t283 bt294.1 bt294.2.1 bt294.2.2.1 bt294.2.2.2 bt298.1 bt298.2.1 bt298.2.2 (bt298.2.1 != bt301.2.1)) else (laws_FnDrifts.j0 k l0 t277 t278 t279 t280 t281 t282 t283 bt294.1 bt294.2.1 bt294.2.2.1 bt294.2.2.2 bt298.1 bt298.2.1 bt298.2.2 true)) else (laws_FnDrifts.j0 k l0 t277 t278 t279 t280 t281 t282 t283 bt294.1 bt294.2.1 bt294.2.2.1 bt294.2.2.2 bt298.1 bt298.2.1 bt298.2.2 true)) else (laws_FnDrifts.j0 k l0 t277 t278 t279 t280 t281 t282 t283 bt294.1 bt294.2.1 bt294.2.2.1 bt294.2.2.2 bt298.1 bt298.2.1 bt298.2.2 true)) else (laws_FnDrifts.j0 k l0 t277 t278 t279 t280 t281 t282 t283 bt294.1 bt294.2.1 bt294.2.2.1 bt294.2.2.2 bt298.1 bt298.2.1 bt298.2.2 true)) else (laws_FnDrifts.j0 k l0 t277 t278 t279 t280 t281 t282 t283 bt294.1 bt294.2.1 bt294.2.2.1 bt294.2.2.2 bt298.1 bt298.2.1 bt298.2.2 true)) else (laws_FnDrifts.j0 k l0 t277 t278 t279 t280 t281 t282 t283 bt294.1 bt294.2.1 bt294.2.2.1 bt294.2.2.2 bt298.1 bt298.2.1 bt298.2.2 true)) else (laws_FnDrifts.j0 k l0 t277 t278 t279 t280 t281 t282 t283 bt294.1 bt294.2.1 bt294.2.2.1 bt294.2.2.2 bt298.1 bt298.2.1 bt298.2.2 true))))) = some r := H
    have A9 := Aside0.mk A90
    clear A90
    replace H := Option.bind_eq_some_iff.mp H
    obtain ⟨⟨t294, t295, t296, t297⟩, A100, H⟩ := H
    replace H : ((impl_LandingRange.f k t294 t295 t296 t297).bind fun bt298 => ((spec_LandingRange.f k t294 t295 t296 t297).bind fun bt301 => (if t283 = t286 then (if t281 = t284 then (if t282 = t285 then (if t291 = t293 then (if t290 = t292 then (if bt298.2.2 = bt301.2.2 then (if bt298.1 = bt301.1 then (laws_FnDrifts.j0 k l0 t277 t278 t279 t280 t281 t282 t283 t294 t295 t296 t297 bt298.1 bt298.2.1 bt298.2.2 (bt298.2.1 != bt301.2.1)) else (laws_FnDrifts.j0 k l0 t277 t278 t279 t280 t281 t282 t283 t294 t295 t296 t297 bt298.1 bt298.2.1 bt298.2.2 true)) else (laws_FnDrifts.j0 k l0 t277 t278 t279 t280 t281 t282 t283 t294 t295 t296 t297 bt298.1 bt298.2.1 bt298.2.2 true)) else (laws_FnDrifts.j0 k l0 t277 t278 t279 t280 t281 t282 t283 t294 t295 t296 t297 bt298.1 bt298.2.1 bt298.2.2 true)) else (laws_FnDrifts.j0 k l0 t277 t278 t279 t280 t281 t282 t283 t294 t295 t296 t297 bt298.1 bt298.2.1 bt298.2.2 true)) else (laws_FnDrifts.j0 k l0 t277 t278 t279 t280 t281 t282 t283 t294 t295 t296 t297 bt298.1 bt298.2.1 bt298.2.2 true)) else (laws_FnDrifts.j0 k l0 t277 t278 t279 t280 t281 t282 t283 t294 t295 t296 t297 bt298.1 bt298.2.1 bt298.2.2 true)) else (laws_FnDrifts.j0 k l0 t277 t278 t279 t280 t281 t282 t283 t294 t295 t296 t297 bt298.1 bt298.2.1 bt298.2.2 true)))) = some r := H
    have A10 := Aside0.mk A100
    clear A100
    replace H := Option.bind_eq_some_iff.mp H
    obtain ⟨⟨t298, t299, t300⟩, A110, H⟩ := H
    replace H : ((spec_LandingRange.f k t294 t295 t296 t297).bind fun bt301 => (if t283 = t286 then (if t281 = t284 then (if t282 = t285 then (if t291 = t293 then (if t290 = t292 then (if t300 = bt301.2.2 then (if t298 = bt301.1 then (laws_FnDrifts.j0 k l0 t277 t278 t279 t280 t281 t282 t283 t294 t295 t296 t297 t298 t299 t300 (t299 != bt301.2.1)) else (laws_FnDrifts.j0 k l0 t277 t278 t279 t280 t281 t282 t283 t294 t295 t296 t297 t298 t299 t300 true)) else (laws_FnDrifts.j0 k l0 t277 t278 t279 t280 t281 t282 t283 t294 t295 t296 t297 t298 t299 t300 true)) else (laws_FnDrifts.j0 k l0 t277 t278 t279 t280 t281 t282 t283 t294 t295 t296 t297 t298 t299 t300 true)) else (laws_FnDrifts.j0 k l0 t277 t278 t279 t280 t281 t282 t283 t294 t295 t296 t297 t298 t299 t300 true)) else (laws_FnDrifts.j0 k l0 t277 t278 t279 t280 t281 t282 t283 t294 t295 t296 t297 t298 t299 t300 true)) else (laws_FnDrifts.j0 k l0 t277 t278 t279 t280 t281 t282 t283 t294 t295 t296 t297 t298 t299 t300 true)) else (laws_FnDrifts.j0 k l0 t277 t278 t279 t280 t281 t282 t283 t294 t295 t296 t297 t298 t299 t300 true))) = some r := H
    have A11 := Aside0.mk A110
    clear A110
    replace H := Option.bind_eq_some_iff.mp H
    obtain ⟨⟨t301, t302, t303⟩, A120, H⟩ := H
    replace H : (if t283 = t286 then (if t281 = t284 then (if t282 = t285 then (if t291 = t293 then (if t290 = t292 then (if t300 = t303 then (if t298 = t301 then (laws_FnDrifts.j0 k l0 t277 t278 t279 t280 t281 t282 t283 t294 t295 t296 t297 t298 t299 t300 (t299 != t302)) else (laws_FnDrifts.j0 k l0 t277 t278 t279 t280 t281 t282 t283 t294 t295 t296 t297 t298 t299 t300 true)) else (laws_FnDrifts.j0 k l0 t277 t278 t279 t280 t281 t282 t283 t294 t295 t296 t297 t298 t299 t300 true)) else (laws_FnDrifts.j0 k l0 t277 t278 t279 t280 t281 t282 t283 t294 t295 t296 t297 t298 t299 t300 true)) else (laws_FnDrifts.j0 k l0 t277 t278 t279 t280 t281 t282 t283 t294 t295 t296 t297 t298 t299 t300 true)) else (laws_FnDrifts.j0 k l0 t277 t278 t279 t280 t281 t282 t283 t294 t295 t296 t297 t298 t299 t300 true)) else (laws_FnDrifts.j0 k l0 t277 t278 t279 t280 t281 t282 t283 t294 t295 t296 t297 t298 t299 t300 true)) else (laws_FnDrifts.j0 k l0 t277 t278 t279 t280 t281 t282 t283 t294 t295 t296 t297 t298 t299 t300 true)) = some r := H
    have A12 := Aside0.mk A120
    clear A120
    have HC13 := Aside0.mk H
    clear H
    go_enter Try.func15, Try.ntmps15
    go_upto_region 12 with (first | ((with_reducible refine gate_callee (f := 36) rfl ?_); refine goesL_ (some 37) rfl rfl Try.func36 (by kernel_rfl) rfl #[.slice A0 l0.length c0] rfl (by (try simp only [List.map_toArray, List.map_cons, List.map_nil]); first | done | rfl | (simp only [List.length_drop, List.length_take]; rfl) | (simp; done) | (simp; rfl)) ?_; (with_reducible refine (laws_big.calls _ _ l0 false _ ?side1 ?side2 A2.out).mono ?_); (case side1 => repeat (first | exact HR0.out | (with_reducible refine Kd.C_alloc ?_ _) | (with_reducible refine Kd.C_drewN ?_ _) | (with_reducible refine Kd.C_drew ?_))); (case side2 => exact HC0.out); rintro e w' ⟨rfl, ⟨nd, rfl⟩⟩; refine ⟨_, rfl, ?_⟩) | ((with_reducible refine gate_callee (f := 44) rfl ?_); refine goesL_ (some 40) rfl rfl Try.func44 (by kernel_rfl) rfl #[.slice A0 l0.length c0] rfl (by (try simp only [List.map_toArray, List.map_cons, List.map_nil]); first | done | rfl | (simp only [List.length_drop, List.length_take]; rfl) | (simp; done) | (simp; rfl)) ?_; (with_reducible refine (spec_DrawDriftRange.calls k _ _ l0 t277 t278 t279 t280 _ ?side1 ?side2 A4.out).mono ?_); (case side1 => repeat (first | exact HR0.out | (with_reducible refine Kd.C_alloc ?_ _) | (with_reducible refine Kd.C_drewN ?_ _) | (with_reducible refine Kd.C_drew ?_))); (case side2 => exact HC0.out); rintro e w14 ⟨rfl, hb⟩; refine ⟨_, rfl, ?_⟩; have n0_ := Aside0.mk (below_step (by repeat (first | (with_reducible first | exact HB.out | apply below_alloc | apply pw_below_drewN | apply below_drew1) | exact HB.out)) hb); clear HB; have HB := n0_; clear n0_; (try clear hb); (try clear hb2); (try clear hk); (try clear hi)) | ((with_reducible refine gate_callee (f := 25) rfl ?_); refine goesL_ (some 50) rfl rfl Try.func25 (by kernel_rfl) rfl #[.int .i64 t277, .int .i64 t278, .int .i64 t279, .int .i64 t280] rfl (by (try simp only [List.map_toArray, List.map_cons, List.map_nil]); first | done | rfl | (simp only [List.length_drop, List.length_take]; rfl) | (simp; done) | (simp; rfl)) ?_; (with_reducible refine (impl_DriftRange.calls k t277 t278 t279 t280 t281 t282 t283 _ A5.out).mono ?_); rintro e w' ⟨rfl, ⟨nd, rfl⟩⟩; refine ⟨_, rfl, ?_⟩) | ((with_reducible refine gate_callee (f := 24) rfl ?_); refine goesL_ (some 59) rfl rfl Try.func24 (by kernel_rfl) rfl #[.int .i64 t277, .int .i64 t278, .int .i64 t279, .int .i64 t280] rfl (by (try simp only [List.map_toArray, List.map_cons, List.map_nil]); first | done | rfl | (simp only [List.length_drop, List.length_take]; rfl) | (simp; done) | (simp; rfl)) ?_; (with_reducible refine (spec_DriftRange.calls t277 t278 t279 t280 t284 t285 t286 _ A6.out).mono ?_); rintro e w' ⟨rfl, ⟨nd, rfl⟩⟩; refine ⟨_, rfl, ?_⟩) | ((with_reducible refine gate_callee (f := 45) rfl ?_); refine goesL_ (some 65) rfl rfl Try.func45 (by kernel_rfl) rfl #[.slice A0 l0.length c0] rfl (by (try simp only [List.map_toArray, List.map_cons, List.map_nil]); first | done | rfl | (simp only [List.length_drop, List.length_take]; rfl) | (simp; done) | (simp; rfl)) ?_; (with_reducible refine (spec_DrawDriftAt.calls k _ _ l0 t287 t288 t289 _ ?side1 ?side2 A7.out).mono ?_); (case side1 => repeat (first | exact (Kd.C_below HR0.out (by repeat (first | (with_reducible first | exact HB.out | apply below_alloc | apply pw_below_drewN | apply below_drew1) | exact HB.out))) | (with_reducible refine Kd.C_alloc ?_ _) | (with_reducible refine Kd.C_drewN ?_ _) | (with_reducible refine Kd.C_drew ?_))); (case side2 => exact HC0.out); rintro e w15 ⟨rfl, hb⟩; refine ⟨_, rfl, ?_⟩; have n0_ := Aside0.mk (below_step (by repeat (first | (with_reducible first | exact HB.out | apply below_alloc | apply pw_below_drewN | apply below_drew1) | exact HB.out)) hb); clear HB; have HB := n0_; clear n0_; (try clear hb); (try clear hb2); (try clear hk); (try clear hi)) | ((with_reducible refine gate_callee (f := 21) rfl ?_); refine goesL_ (some 73) rfl rfl Try.func21 (by kernel_rfl) rfl #[.int .i64 t287, .int .i64 t288, .int .i64 t289] rfl (by (try simp only [List.map_toArray, List.map_cons, List.map_nil]); first | done | rfl | (simp only [List.length_drop, List.length_take]; rfl) | (simp; done) | (simp; rfl)) ?_; (with_reducible refine (impl_DriftAt.calls t287 t288 t289 t290 t291 _ A8.out).mono ?_); rintro e w' ⟨rfl, ⟨nd, rfl⟩⟩; refine ⟨_, rfl, ?_⟩) | ((with_reducible refine gate_callee (f := 20) rfl ?_); refine goesL_ (some 80) rfl rfl Try.func20 (by kernel_rfl) rfl #[.int .i64 t287, .int .i64 t288, .int .i64 t289] rfl (by (try simp only [List.map_toArray, List.map_cons, List.map_nil]); first | done | rfl | (simp only [List.length_drop, List.length_take]; rfl) | (simp; done) | (simp; rfl)) ?_; (with_reducible refine (spec_DriftAt.calls t287 t288 t289 t292 t293 _ A9.out).mono ?_); rintro e w' ⟨rfl, ⟨nd, rfl⟩⟩; refine ⟨_, rfl, ?_⟩) | ((with_reducible refine gate_callee (f := 46) rfl ?_); refine goesL_ (some 85) rfl rfl Try.func46 (by kernel_rfl) rfl #[.slice A0 l0.length c0] rfl (by (try simp only [List.map_toArray, List.map_cons, List.map_nil]); first | done | rfl | (simp only [List.length_drop, List.length_take]; rfl) | (simp; done) | (simp; rfl)) ?_; (with_reducible refine (spec_DrawLandingRange.calls k _ _ l0 t294 t295 t296 t297 _ ?side1 ?side2 A10.out).mono ?_); (case side1 => repeat (first | exact (Kd.C_below HR0.out (by repeat (first | (with_reducible first | exact HB.out | apply below_alloc | apply pw_below_drewN | apply below_drew1) | exact HB.out))) | (with_reducible refine Kd.C_alloc ?_ _) | (with_reducible refine Kd.C_drewN ?_ _) | (with_reducible refine Kd.C_drew ?_))); (case side2 => exact HC0.out); rintro e w16 ⟨rfl, hb⟩; refine ⟨_, rfl, ?_⟩; have n0_ := Aside0.mk (below_step (by repeat (first | (with_reducible first | exact HB.out | apply below_alloc | apply pw_below_drewN | apply below_drew1) | exact HB.out)) hb); clear HB; have HB := n0_; clear n0_; (try clear hb); (try clear hb2); (try clear hk); (try clear hi)) | ((with_reducible refine gate_callee (f := 33) rfl ?_); refine goesL_ (some 95) rfl rfl Try.func33 (by kernel_rfl) rfl #[.int .i64 t294, .int .i64 t295, .int .i64 t296, .int .i64 t297] rfl (by (try simp only [List.map_toArray, List.map_cons, List.map_nil]); first | done | rfl | (simp only [List.length_drop, List.length_take]; rfl) | (simp; done) | (simp; rfl)) ?_; (with_reducible refine (impl_LandingRange.calls k t294 t295 t296 t297 t298 t299 t300 _ A11.out).mono ?_); rintro e w' ⟨rfl, ⟨nd, rfl⟩⟩; refine ⟨_, rfl, ?_⟩) | ((with_reducible refine gate_callee (f := 32) rfl ?_); refine goesL_ (some 104) rfl rfl Try.func32 (by kernel_rfl) rfl #[.int .i64 t294, .int .i64 t295, .int .i64 t296, .int .i64 t297] rfl (by (try simp only [List.map_toArray, List.map_cons, List.map_nil]); first | done | rfl | (simp only [List.length_drop, List.length_take]; rfl) | (simp; done) | (simp; rfl)) ?_; (with_reducible refine (spec_LandingRange.calls k t294 t295 t296 t297 t301 t302 t303 _ A12.out).mono ?_); rintro e w17 ⟨rfl, hb⟩; refine ⟨_, rfl, ?_⟩; have n0_ := Aside0.mk (below_step (by repeat (first | (with_reducible first | exact HB.out | apply below_alloc | apply pw_below_drewN | apply below_drew1) | exact HB.out)) hb); clear HB; have HB := n0_; clear n0_; (try clear hb); (try clear hb2); (try clear hk); (try clear hi)))
    (try simp only [Act.put, List.setIfInBounds_toArray, List.set_cons_zero, List.set_cons_succ])
    go_cut [145] (fun v145 wc => ∃ (kq : Nat) (x145_12 : Bool), v145 = .bool x145_12 ∧ Aside0 (laws_FnDrifts.j0 kq l0 t277 t278 t279 t280 t281 t282 t283 t294 t295 t296 t297 t298 t299 t300 x145_12 = some r) ∧ Aside0 (kq ≤ k) ∧ Aside0 (Below w.heap.size w wc))
    case first =>
      have H := HC13.out
      clear HC13
      by_cases c18 : t283 = t286
      · rw [if_pos c18] at H
        have c18b0 : (t283 == t286) = true := beq_iff_eq.mpr c18
        have c18b1 : (t283 != t286) = false := bne_eq_false_iff_eq.mpr c18
        clear c18
        (first | rw [c18b0] | (simp only [i64_w, i32_w]; rw [c18b0]) | skip)
        by_cases c19 : t281 = t284
        · rw [if_pos c19] at H
          have c19b0 : (t281 == t284) = true := beq_iff_eq.mpr c19
          have c19b1 : (t281 != t284) = false := bne_eq_false_iff_eq.mpr c19
          clear c19
          by_cases c20 : t282 = t285
          · rw [if_pos c20] at H
            have c20b0 : (t282 == t285) = true := beq_iff_eq.mpr c20
            have c20b1 : (t282 != t285) = false := bne_eq_false_iff_eq.mpr c20
            clear c20
            by_cases c21 : t291 = t293
            · rw [if_pos c21] at H
              have c21b0 : (t291 == t293) = true := beq_iff_eq.mpr c21
              have c21b1 : (t291 != t293) = false := bne_eq_false_iff_eq.mpr c21
              clear c21
              by_cases c22 : t290 = t292
              · rw [if_pos c22] at H
                have c22b0 : (t290 == t292) = true := beq_iff_eq.mpr c22
                have c22b1 : (t290 != t292) = false := bne_eq_false_iff_eq.mpr c22
                clear c22
                by_cases c23 : t300 = t303
                · rw [if_pos c23] at H
                  have c23b0 : (t300 == t303) = true := beq_iff_eq.mpr c23
                  have c23b1 : (t300 != t303) = false := bne_eq_false_iff_eq.mpr c23
                  clear c23
                  by_cases c24 : t298 = t301
                  · rw [if_pos c24] at H
                    have c24b0 : (t298 == t301) = true := beq_iff_eq.mpr c24
                    have c24b1 : (t298 != t301) = false := bne_eq_false_iff_eq.mpr c24
                    clear c24
                    have H' := Aside0.mk H
                    clear H
                    go_wp2
                    go_meet
                    case rel => exact ⟨_, ((t299 != t302)), (by first | rfl | (simp; done) | (simp [*]; done)), H', ⟨by first | omega | exact Nat.le_refl _⟩, ⟨by repeat (first | (with_reducible first | exact HB.out | apply below_alloc | apply pw_below_drewN | apply below_drew1) | exact HB.out)⟩⟩
                  · rw [if_neg c24] at H
                    have c24b0 : (t298 == t301) = false := beq_eq_false_iff_ne.mpr c24
                    have c24b1 : (t298 != t301) = true := bne_iff_ne.mpr c24
                    have H' := Aside0.mk H
                    clear H
                    go_wp2
                    go_meet
                    case rel => exact ⟨_, (true), (by first | rfl | (simp; done) | (simp [*]; done)), H', ⟨by first | omega | exact Nat.le_refl _⟩, ⟨by repeat (first | (with_reducible first | exact HB.out | apply below_alloc | apply pw_below_drewN | apply below_drew1) | exact HB.out)⟩⟩
                · rw [if_neg c23] at H
                  have c23b0 : (t300 == t303) = false := beq_eq_false_iff_ne.mpr c23
                  have c23b1 : (t300 != t303) = true := bne_iff_ne.mpr c23
                  have H' := Aside0.mk H
                  clear H
                  go_wp2
                  go_meet
                  case rel => exact ⟨_, (true), (by first | rfl | (simp; done) | (simp [*]; done)), H', ⟨by first | omega | exact Nat.le_refl _⟩, ⟨by repeat (first | (with_reducible first | exact HB.out | apply below_alloc | apply pw_below_drewN | apply below_drew1) | exact HB.out)⟩⟩
              · rw [if_neg c22] at H
                have c22b0 : (t290 == t292) = false := beq_eq_false_iff_ne.mpr c22
                have c22b1 : (t290 != t292) = true := bne_iff_ne.mpr c22
                have H' := Aside0.mk H
                clear H
                go_wp2
                go_meet
                case rel => exact ⟨_, (true), (by first | rfl | (simp; done) | (simp [*]; done)), H', ⟨by first | omega | exact Nat.le_refl _⟩, ⟨by repeat (first | (with_reducible first | exact HB.out | apply below_alloc | apply pw_below_drewN | apply below_drew1) | exact HB.out)⟩⟩
            · rw [if_neg c21] at H
              have c21b0 : (t291 == t293) = false := beq_eq_false_iff_ne.mpr c21
              have c21b1 : (t291 != t293) = true := bne_iff_ne.mpr c21
              have H' := Aside0.mk H
              clear H
              go_wp2
              go_meet
              case rel => exact ⟨_, (true), (by first | rfl | (simp; done) | (simp [*]; done)), H', ⟨by first | omega | exact Nat.le_refl _⟩, ⟨by repeat (first | (with_reducible first | exact HB.out | apply below_alloc | apply pw_below_drewN | apply below_drew1) | exact HB.out)⟩⟩
          · rw [if_neg c20] at H
            have c20b0 : (t282 == t285) = false := beq_eq_false_iff_ne.mpr c20
            have c20b1 : (t282 != t285) = true := bne_iff_ne.mpr c20
            have H' := Aside0.mk H
            clear H
            go_wp2
            go_meet
            case rel => exact ⟨_, (true), (by first | rfl | (simp; done) | (simp [*]; done)), H', ⟨by first | omega | exact Nat.le_refl _⟩, ⟨by repeat (first | (with_reducible first | exact HB.out | apply below_alloc | apply pw_below_drewN | apply below_drew1) | exact HB.out)⟩⟩
        · rw [if_neg c19] at H
          have c19b0 : (t281 == t284) = false := beq_eq_false_iff_ne.mpr c19
          have c19b1 : (t281 != t284) = true := bne_iff_ne.mpr c19
          have H' := Aside0.mk H
          clear H
          go_wp2
          go_meet
          case rel => exact ⟨_, (true), (by first | rfl | (simp; done) | (simp [*]; done)), H', ⟨by first | omega | exact Nat.le_refl _⟩, ⟨by repeat (first | (with_reducible first | exact HB.out | apply below_alloc | apply pw_below_drewN | apply below_drew1) | exact HB.out)⟩⟩
      · rw [if_neg c18] at H
        have c18b0 : (t283 == t286) = false := beq_eq_false_iff_ne.mpr c18
        have c18b1 : (t283 != t286) = true := bne_iff_ne.mpr c18
        (first | rw [c18b0] | (simp only [i64_w, i32_w]; rw [c18b0]) | skip)
        have H' := Aside0.mk H
        clear H
        go_wp2
        go_meet
        case rel => exact ⟨_, (true), (by first | rfl | (simp; done) | (simp [*]; done)), H', ⟨by first | omega | exact Nat.le_refl _⟩, ⟨by repeat (first | (with_reducible first | exact HB.out | apply below_alloc | apply pw_below_drewN | apply below_drew1) | exact HB.out)⟩⟩
    case rest =>
      clear HC13
      try clear c1
      try clear c2
      try clear p2
      try clear c3
      try clear c4
      try clear c15
      try clear c18
      try clear c18b0
      try clear c18b1
      try clear c19
      try clear c19b0
      try clear c19b1
      try clear c20
      try clear c20b0
      try clear c20b1
      try clear c21
      try clear c21b0
      try clear c21b1
      try clear c22
      try clear c22b0
      try clear c22b1
      try clear c23
      try clear c23b0
      try clear c23b1
      try clear c24
      try clear c24b0
      try clear c24b1
      obtain ⟨kq, x145_12, rfl, HA, HJ12, HB⟩ := hcut
      cases kq with
      | zero => exact absurd HA.out (by simp [laws_FnDrifts.j0])
      | succ kj12 =>
        have H := HA.out
        clear HA
        simp only [laws_FnDrifts.j0] at H
        by_cases c25 : x145_12 = true
        · subst c25
          have H1 : (some false) = some r := by rw [if_pos rfl] at H; exact H
          clear H
          have H := H1
          clear H1
          obtain rfl := Option.some.inj H
          exact absurd hr_.out (by decide)
        · replace c25 := Bool.eq_false_iff.mpr c25
          subst c25
          have H1 : (if t300 = 0 then ((impl_FlightOf.f kj12 t294).bind fun bt304 => ((laws_roll.f kj12 l0 403).bind fun bt306 => ((laws_dice_below.f bt306.1 bt306.2.1 bt306.2.2 (wrap64 ((wrap64 (t297 - t296)) + 1))).bind fun bt310 => ((impl_DriftAt.f t295 (wrap64 (t296 + bt310.1)) bt304.1).bind fun bt313 => (if bt304.2 = 0 then (if bt313.2 = 0 then (if bt313.1 < t298 then (some false) else (if bt313.1 > t299 then (some false) else (laws_FnDrifts.j1 kj12 l0 t277 t278 t279 t280 t281 t282 t283))) else (some false)) else (some false)))))) else (laws_FnDrifts.j1 kj12 l0 t277 t278 t279 t280 t281 t282 t283)) = some r := by rw [if_neg (show ¬ (false = true) by decide)] at H; exact H
          clear H
          have H := H1
          clear H1
          have HC26 := Aside0.mk H
          clear H
          go_upto_if 147 with (fail)
          go_cut [] (fun wc => ∃ (kq : Nat), Aside0 (laws_FnDrifts.j1 kq l0 t277 t278 t279 t280 t281 t282 t283 = some r) ∧ Aside0 (kq ≤ kj12) ∧ Aside0 (Below w.heap.size w wc))
          case first =>
            have H := HC26.out
            clear HC26
            by_cases c27 : t300 = 0
            · rw [if_pos c27] at H
              have c27b0 : (t300 == 0) = true := beq_iff_eq.mpr c27
              have c27b1 : (t300 != 0) = false := bne_eq_false_iff_eq.mpr c27
              clear c27
              (first | rw [c27b0] | (simp only [i64_w, i32_w]; rw [c27b0]) | skip)
              replace H := Option.bind_eq_some_iff.mp H
              obtain ⟨⟨t304, t305⟩, A280, H⟩ := H
              replace H : ((laws_roll.f kj12 l0 403).bind fun bt306 => ((laws_dice_below.f bt306.1 bt306.2.1 bt306.2.2 (wrap64 ((wrap64 (t297 - t296)) + 1))).bind fun bt310 => ((impl_DriftAt.f t295 (wrap64 (t296 + bt310.1)) t304).bind fun bt313 => (if t305 = 0 then (if bt313.2 = 0 then (if bt313.1 < t298 then (some false) else (if bt313.1 > t299 then (some false) else (laws_FnDrifts.j1 kj12 l0 t277 t278 t279 t280 t281 t282 t283))) else (some false)) else (some false))))) = some r := H
              have A28 := Aside0.mk A280
              clear A280
              replace H := Option.bind_eq_some_iff.mp H
              obtain ⟨⟨t306, t307, t308⟩, A290, H⟩ := H
              replace H : ((laws_dice_below.f t306 t307 t308 (wrap64 ((wrap64 (t297 - t296)) + 1))).bind fun bt310 => ((impl_DriftAt.f t295 (wrap64 (t296 + bt310.1)) t304).bind fun bt313 => (if t305 = 0 then (if bt313.2 = 0 then (if bt313.1 < t298 then (some false) else (if bt313.1 > t299 then (some false) else (laws_FnDrifts.j1 kj12 l0 t277 t278 t279 t280 t281 t282 t283))) else (some false)) else (some false)))) = some r := H
              have A29 := Aside0.mk A290
              clear A290
              replace H := Option.bind_eq_some_iff.mp H
              obtain ⟨⟨t310, t311, t312⟩, A300, H⟩ := H
              replace H : ((impl_DriftAt.f t295 (wrap64 (t296 + t310)) t304).bind fun bt313 => (if t305 = 0 then (if bt313.2 = 0 then (if bt313.1 < t298 then (some false) else (if bt313.1 > t299 then (some false) else (laws_FnDrifts.j1 kj12 l0 t277 t278 t279 t280 t281 t282 t283))) else (some false)) else (some false))) = some r := H
              have A30 := Aside0.mk A300
              clear A300
              replace H := Option.bind_eq_some_iff.mp H
              obtain ⟨⟨t313, t314⟩, A310, H⟩ := H
              replace H : (if t305 = 0 then (if t314 = 0 then (if t313 < t298 then (some false) else (if t313 > t299 then (some false) else (laws_FnDrifts.j1 kj12 l0 t277 t278 t279 t280 t281 t282 t283))) else (some false)) else (some false)) = some r := H
              have A31 := Aside0.mk A310
              clear A310
              by_cases c32 : t305 = 0
              · rw [if_pos c32] at H
                have c32b0 : (t305 == 0) = true := beq_iff_eq.mpr c32
                have c32b1 : (t305 != 0) = false := bne_eq_false_iff_eq.mpr c32
                clear c32
                by_cases c33 : t314 = 0
                · rw [if_pos c33] at H
                  have c33b0 : (t314 == 0) = true := beq_iff_eq.mpr c33
                  have c33b1 : (t314 != 0) = false := bne_eq_false_iff_eq.mpr c33
                  clear c33
                  by_cases c34 : t313 < t298
                  · rw [if_pos c34] at H
                    have c34b0 : decide (t313 < t298) = true := decide_eq_true c34
                    clear c34
                    obtain rfl := Option.some.inj H
                    exact absurd hr_.out (by decide)
                  · rw [if_neg c34] at H
                    have c34b0 : decide (t313 < t298) = false := decide_eq_false c34
                    clear c34
                    by_cases c35 : t313 > t299
                    · rw [if_pos c35] at H
                      have c35b0 : decide (t299 < t313) = true := decide_eq_true c35
                      clear c35
                      obtain rfl := Option.some.inj H
                      exact absurd hr_.out (by decide)
                    · rw [if_neg c35] at H
                      have c35b0 : decide (t299 < t313) = false := decide_eq_false c35
                      clear c35
                      have H' := Aside0.mk H
                      clear H
                      go_wp2_with (first | ((with_reducible refine gate_callee (f := 31) rfl ?_); refine goesL_ (some 150) rfl rfl Try.func31 (by kernel_rfl) rfl #[.int .i64 t294] rfl (by (try simp only [List.map_toArray, List.map_cons, List.map_nil]); first | done | rfl | (simp only [List.length_drop, List.length_take]; rfl) | (simp; done) | (simp; rfl)) ?_; (with_reducible refine (impl_FlightOf.calls kj12 t294 t304 t305 _ A28.out).mono ?_); rintro e w' ⟨rfl, ⟨nd, rfl⟩⟩; refine ⟨_, rfl, ?_⟩) | ((with_reducible refine gate_callee (f := 38) rfl ?_); refine goesL_ (some 157) rfl rfl Try.func38 (by kernel_rfl) rfl #[.slice A0 l0.length c0, .int .u64 403] rfl (by (try simp only [List.map_toArray, List.map_cons, List.map_nil]); first | done | rfl | (simp only [List.length_drop, List.length_take]; rfl) | (simp; done) | (simp; rfl)) ?_; (with_reducible refine (laws_roll.calls kj12 _ _ l0 403 t306 t307 t308 w _ ?side1 ?side2 ?side3 A29.out).mono ?_); (case side1 => repeat (first | (with_reducible first | exact HB.out | apply below_alloc | apply pw_below_drewN | apply below_drew1) | exact HB.out)); (case side2 => exact HR0.out); (case side3 => exact HC0.out); rintro e w36 ⟨g309, rfl, hi, hb, hb2⟩; refine ⟨_, rfl, ?_⟩; have n0_ := Aside0.mk (hb); have n1_ := Aside0.mk (hi); clear HB; have HB := n0_; have HI309 := n1_; clear n0_ n1_; (try clear hb); (try clear hb2); (try clear hk); (try clear hi)) | ((with_reducible refine gate_callee (f := 39) rfl ?_); refine goesL_ (some 162) rfl rfl Try.func39 (by kernel_rfl) rfl #[.pointer (some ⟨g309, 0, none⟩), .int .i64 (wrap64 ((wrap64 (t297 - t296)) + 1))] rfl (by (try simp only [List.map_toArray, List.map_cons, List.map_nil]); first | done | rfl | (simp only [List.length_drop, List.length_take]; rfl) | (simp; done) | (simp; rfl)) ?_; (with_reducible refine (laws_dice_below.calls g309 t306 t307 t308 (wrap64 ((wrap64 (t297 - t296)) + 1)) t310 t311 t312 w _ ?side1 ?side2 A30.out).mono ?_); (case side1 => repeat (first | (with_reducible first | exact HI309.out | apply IsS64.alloc | apply IsS64.drewN | apply IsS64.drew | apply IsS64.set_1 | apply IsS64.set_2) | exact HI309.out)); (case side2 => repeat (first | (with_reducible first | exact HB.out | apply below_alloc | apply pw_below_drewN | apply below_drew1 | refine below_set ?_ (IsS64.ge HI309.out)) | exact HB.out)); rintro e w37 ⟨rfl, hi, hb, hk⟩; refine ⟨_, rfl, ?_⟩; have n0_ := Aside0.mk (hb); have n1_ := Aside0.mk (hi); clear HB; clear HI309; have HB := n0_; have HI309 := n1_; clear n0_ n1_; (try clear hb); (try clear hb2); (try clear hk); (try clear hi)) | ((with_reducible refine gate_callee (f := 21) rfl ?_); refine goesL_ (some 165) rfl rfl Try.func21 (by kernel_rfl) rfl #[.int .i64 t295, .int .i64 (wrap64 (t296 + t310)), .int .i64 t304] rfl (by (try simp only [List.map_toArray, List.map_cons, List.map_nil]); first | done | rfl | (simp only [List.length_drop, List.length_take]; rfl) | (simp; done) | (simp; rfl)) ?_; (with_reducible refine (impl_DriftAt.calls t295 (wrap64 (t296 + t310)) t304 t313 t314 _ A31.out).mono ?_); rintro e w' ⟨rfl, ⟨nd, rfl⟩⟩; refine ⟨_, rfl, ?_⟩))
                      go_meet
                      case rel => exact ⟨_, H', ⟨by have := HJ12.out; first | omega | exact Nat.le_refl _⟩, ⟨by repeat (first | (with_reducible first | exact HB.out | apply below_alloc | apply pw_below_drewN | apply below_drew1 | refine below_set ?_ (IsS64.ge HI309.out)) | exact HB.out)⟩⟩
                · rw [if_neg c33] at H
                  have c33b0 : (t314 == 0) = false := beq_eq_false_iff_ne.mpr c33
                  have c33b1 : (t314 != 0) = true := bne_iff_ne.mpr c33
                  obtain rfl := Option.some.inj H
                  exact absurd hr_.out (by decide)
              · rw [if_neg c32] at H
                have c32b0 : (t305 == 0) = false := beq_eq_false_iff_ne.mpr c32
                have c32b1 : (t305 != 0) = true := bne_iff_ne.mpr c32
                obtain rfl := Option.some.inj H
                exact absurd hr_.out (by decide)
            · rw [if_neg c27] at H
              have c27b0 : (t300 == 0) = false := beq_eq_false_iff_ne.mpr c27
              have c27b1 : (t300 != 0) = true := bne_iff_ne.mpr c27
              (first | rw [c27b0] | (simp only [i64_w, i32_w]; rw [c27b0]) | skip)
              have H' := Aside0.mk H
              clear H
              go_wp2
              go_meet
              case rel => exact ⟨_, H', ⟨by have := HJ12.out; first | omega | exact Nat.le_refl _⟩, ⟨by repeat (first | (with_reducible first | exact HB.out | apply below_alloc | apply pw_below_drewN | apply below_drew1) | exact HB.out)⟩⟩
          case rest =>
            clear HC26
            try clear c1
            try clear c2
            try clear p2
            try clear c3
            try clear c4
            try clear p6
            try clear c15
            try clear c18
            try clear c18b0
            try clear c18b1
            try clear c19
            try clear c19b0
            try clear c19b1
            try clear c20
            try clear c20b0
            try clear c20b1
            try clear c21
            try clear c21b0
            try clear c21b1
            try clear c22
            try clear c22b0
            try clear c22b1
            try clear c23
            try clear c23b0
            try clear c23b1
            try clear c24
            try clear c24b0
            try clear c24b1
            try clear c25
            try clear c27
            try clear c27b0
            try clear c27b1
            try clear c31
            try clear c32
            try clear c32b0
            try clear c32b1
            try clear c33
            try clear c33b0
            try clear c33b1
            try clear c34
            try clear c34b0
            try clear c35
            try clear c35b0
            try clear c36
            try clear p2
            obtain ⟨kq, HA, HJ25, HB⟩ := hcut
            cases kq with
            | zero => exact absurd HA.out (by simp [laws_FnDrifts.j1])
            | succ kj25 =>
              have H := HA.out
              clear HA
              simp only [laws_FnDrifts.j1] at H
              by_cases c38 : t283 = 0
              · rw [if_pos c38] at H
                have c38b0 : (t283 == 0) = true := beq_iff_eq.mpr c38
                have c38b1 : (t283 != 0) = false := bne_eq_false_iff_eq.mpr c38
                clear c38
                replace H := Option.bind_eq_some_iff.mp H
                obtain ⟨⟨t315, t316, t317⟩, A390, H⟩ := H
                replace H : ((laws_dice_below.f t315 t316 t317 (wrap64 ((wrap64 (t279 - t278)) + 1))).bind fun bt319 => ((impl_DriftAt.f t277 (wrap64 (t278 + bt319.1)) t280).bind fun bt322 => (if bt322.2 = 0 then (if t281 ≤ bt322.1 then (some (decide (bt322.1 ≤ t282))) else (some false)) else (some false)))) = some r := H
                have A39 := Aside0.mk A390
                clear A390
                replace H := Option.bind_eq_some_iff.mp H
                obtain ⟨⟨t319, t320, t321⟩, A400, H⟩ := H
                replace H : ((impl_DriftAt.f t277 (wrap64 (t278 + t319)) t280).bind fun bt322 => (if bt322.2 = 0 then (if t281 ≤ bt322.1 then (some (decide (bt322.1 ≤ t282))) else (some false)) else (some false))) = some r := H
                have A40 := Aside0.mk A400
                clear A400
                replace H := Option.bind_eq_some_iff.mp H
                obtain ⟨⟨t322, t323⟩, A410, H⟩ := H
                replace H : (if t323 = 0 then (if t281 ≤ t322 then (some (decide (t322 ≤ t282))) else (some false)) else (some false)) = some r := H
                have A41 := Aside0.mk A410
                clear A410
                by_cases c42 : t323 = 0
                · rw [if_pos c42] at H
                  have c42b0 : (t323 == 0) = true := beq_iff_eq.mpr c42
                  have c42b1 : (t323 != 0) = false := bne_eq_false_iff_eq.mpr c42
                  clear c42
                  by_cases c43 : t281 ≤ t322
                  · rw [if_pos c43] at H
                    have c43b0 : decide (t281 ≤ t322) = true := decide_eq_true c43
                    clear c43
                    obtain rfl := Option.some.inj H
                    simp only [Option.some.injEq, Prod.mk.injEq] at H
                    obtain ⟨rfl⟩ := H
                    go_wp2_with (first | ((with_reducible refine gate_callee (f := 38) rfl ?_); refine goesL_ (some 190) rfl rfl Try.func38 (by kernel_rfl) rfl #[.slice A0 l0.length c0, .int .u64 404] rfl (by (try simp only [List.map_toArray, List.map_cons, List.map_nil]); first | done | rfl | (simp only [List.length_drop, List.length_take]; rfl) | (simp; done) | (simp; rfl)) ?_; (with_reducible refine (laws_roll.calls kj25 _ _ l0 404 t315 t316 t317 w _ ?side1 ?side2 ?side3 A39.out).mono ?_); (case side1 => repeat (first | (with_reducible first | exact HB.out | apply below_alloc | apply pw_below_drewN | apply below_drew1) | exact HB.out)); (case side2 => exact HR0.out); (case side3 => exact HC0.out); rintro e w44 ⟨g318, rfl, hi, hb, hb2⟩; refine ⟨_, rfl, ?_⟩; have n0_ := Aside0.mk (hb); have n1_ := Aside0.mk (hi); clear HB; have HB := n0_; have HI318 := n1_; clear n0_ n1_; (try clear hb); (try clear hb2); (try clear hk); (try clear hi)) | ((with_reducible refine gate_callee (f := 39) rfl ?_); refine goesL_ (some 195) rfl rfl Try.func39 (by kernel_rfl) rfl #[.pointer (some ⟨g318, 0, none⟩), .int .i64 (wrap64 ((wrap64 (t279 - t278)) + 1))] rfl (by (try simp only [List.map_toArray, List.map_cons, List.map_nil]); first | done | rfl | (simp only [List.length_drop, List.length_take]; rfl) | (simp; done) | (simp; rfl)) ?_; (with_reducible refine (laws_dice_below.calls g318 t315 t316 t317 (wrap64 ((wrap64 (t279 - t278)) + 1)) t319 t320 t321 w _ ?side1 ?side2 A40.out).mono ?_); (case side1 => repeat (first | (with_reducible first | exact HI318.out | apply IsS64.alloc | apply IsS64.drewN | apply IsS64.drew | apply IsS64.set_1 | apply IsS64.set_2) | exact HI318.out)); (case side2 => repeat (first | (with_reducible first | exact HB.out | apply below_alloc | apply pw_below_drewN | apply below_drew1 | refine below_set ?_ (IsS64.ge HI318.out)) | exact HB.out)); rintro e w45 ⟨rfl, hi, hb, hk⟩; refine ⟨_, rfl, ?_⟩; have n0_ := Aside0.mk (hb); have n1_ := Aside0.mk (hi); clear HB; clear HI318; have HB := n0_; have HI318 := n1_; clear n0_ n1_; (try clear hb); (try clear hb2); (try clear hk); (try clear hi)) | ((with_reducible refine gate_callee (f := 21) rfl ?_); refine goesL_ (some 198) rfl rfl Try.func21 (by kernel_rfl) rfl #[.int .i64 t277, .int .i64 (wrap64 (t278 + t319)), .int .i64 t280] rfl (by (try simp only [List.map_toArray, List.map_cons, List.map_nil]); first | done | rfl | (simp only [List.length_drop, List.length_take]; rfl) | (simp; done) | (simp; rfl)) ?_; (with_reducible refine (impl_DriftAt.calls t277 (wrap64 (t278 + t319)) t280 t322 t323 _ A41.out).mono ?_); rintro e w' ⟨rfl, ⟨nd, rfl⟩⟩; refine ⟨_, rfl, ?_⟩))
                    go_ret
                    exact ⟨by first | rfl | (simp [errW_none, errW_some] <;> rfl) | (simp [*, errW_none, errW_some] <;> rfl), by repeat (first | (with_reducible first | exact HB.out | apply below_alloc | apply pw_below_drewN | apply below_drew1 | refine below_set ?_ (IsS64.ge HI318.out)) | exact HB.out)⟩
                  · rw [if_neg c43] at H
                    have c43b0 : decide (t281 ≤ t322) = false := decide_eq_false c43
                    clear c43
                    obtain rfl := Option.some.inj H
                    exact absurd hr_.out (by decide)
                · rw [if_neg c42] at H
                  have c42b0 : (t323 == 0) = false := beq_eq_false_iff_ne.mpr c42
                  have c42b1 : (t323 != 0) = true := bne_iff_ne.mpr c42
                  obtain rfl := Option.some.inj H
                  exact absurd hr_.out (by decide)
              · rw [if_neg c38] at H
                have c38b0 : (t283 == 0) = false := beq_eq_false_iff_ne.mpr c38
                have c38b1 : (t283 != 0) = true := bne_iff_ne.mpr c38
                obtain rfl := Option.some.inj H
                simp only [Option.some.injEq, Prod.mk.injEq] at H
                obtain ⟨rfl⟩ := H
                go_wp2
                go_ret
                exact ⟨by first | rfl | (simp [errW_none, errW_some] <;> rfl) | (simp [*, errW_none, errW_some] <;> rfl), by repeat (first | (with_reducible first | exact HB.out | apply below_alloc | apply pw_below_drewN | apply below_drew1) | exact HB.out)⟩

/-- THE ONE PURE STATEMENT of laws_FnDrifts: yours. -/
def laws_FnDrifts.Pure : Prop := ∀ (l0 : List Int), l0.length ≤ maxLen → l0.length * 1 ≤ 140737488351232 → (∀ x ∈ l0, (Lit.int .u8 x).wf = true) → ∃ k, laws_FnDrifts.f k l0 = some true
theorem laws_FnDrifts.walk (P : laws_FnDrifts.Pure) (a0 : Option Addr) (len0 cap0 : Nat) (z0 : List Int) (w : World) (w0 : (a0 = none ∧ len0 = 0 ∧ cap0 = 0 ∧ z0 = []) ∨ ∃ x, a0 = some x ∧ len0 ≤ cap0 ∧ cap0 ≤ maxLen ∧ z0.length = cap0 ∧ (∀ i, i < z0.length → w.cell? (x.add i) = some (.int .u8 (z0.getD i 0))) ∧ ∀ n ∈ z0, (Lit.int .u8 n).wf = true) (y0 : len0 * 1 ≤ 140737488351232) :
    Calls Try.prog 15 #[.slice a0 len0 cap0] w fun e w' => e = .returned (.bool true) ∧ Below w.heap.size w w' := by
  obtain ⟨l0, rfl, hr0, hm0, hw0, hc0⟩ := ReadsInt.ofRowC w0
  obtain ⟨k, h⟩ := P l0 hm0 y0 hw0
  refine (laws_FnDrifts.calls k _ _ l0 true w (Kd.C_of_reads (d := (0 : Int)) (h1 := fun _ => rfl) hr0) hc0 h ⟨rfl⟩).mono ?_
  rintro e w' ⟨rfl, hd⟩
  exact ⟨rfl, hd⟩

end Go.Proofs.Ytkedlfedjbgbiaa.QFnDrifts
