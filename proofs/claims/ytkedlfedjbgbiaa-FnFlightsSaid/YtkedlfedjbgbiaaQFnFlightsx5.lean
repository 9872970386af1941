-- Written by a program of this project's session, after the kit's print (a turned copy of its programs). Lean checks it.
import Derived.Test.YtkedlfedjbgbiaaQFnFlightsx0
import Derived.Test.YtkedlfedjbgbiaaQFnFlightsx1
import Derived.Test.YtkedlfedjbgbiaaQFnFlightsx2
import Derived.Test.YtkedlfedjbgbiaaQFnFlightsx3
import Derived.Test.YtkedlfedjbgbiaaQFnFlightsx4
namespace Go.Proofs.Ytkedlfedjbgbiaa.QFnFlights
open Go.RowKit Go.Proofs.YtkedlfedjbgbiaaW.PrintWords Go.Proofs.YtkedlfedjbgbiaaW.PrintLast Go.Proofs.YtkedlfedjbgbiaaW.PrintMore
attribute [local go_sem] max2_int min2_int max_two min_two max_three min_three max_four min_four   -- for this text's walks alone
set_option linter.unusedVariables false
set_option linter.unusedSimpArgs false

/-! ### laws_FnFlights: function 14 -/
mutual
def laws_FnFlights.j0 : Nat → List Int → Int → Int → Int → Int → Int → Bool → Option (Bool)
  | 0, _, _, _, _, _, _, _ => none
  | k + 1, x0, x3, x4, x5, x6, x10, x110 => if x110 = true then (some false) else (if x6 = 0 then ((impl_HeightAt.f x3 x4).bind fun bt227 => ((laws_roll.f k x0 401).bind fun bt229 => ((laws_dice_below.f bt229.1 bt229.2.1 bt229.2.2 60001).bind fun bt233 => ((impl_HeightAt.f x3 bt233.1).bind fun bt236 => ((impl_HeightAt.f x3 x10).bind fun bt238 => (if bt227.2 = 0 then (if bt227.1 = x5 then (if bt236.2 = 0 then (if bt236.1 > x5 then (laws_FnFlights.j1 k x0 x3 x4 x5 x10 true) else (if bt238.2 = 0 then (if bt238.1 > 0 then (laws_FnFlights.j1 k x0 x3 x4 x5 x10 true) else (laws_FnFlights.j1 k x0 x3 x4 x5 x10 (decide (x10 < 1)))) else (laws_FnFlights.j1 k x0 x3 x4 x5 x10 true))) else (laws_FnFlights.j1 k x0 x3 x4 x5 x10 true)) else (laws_FnFlights.j1 k x0 x3 x4 x5 x10 true)) else (laws_FnFlights.j1 k x0 x3 x4 x5 x10 true))))))) else (some true))
def laws_FnFlights.j1 : Nat → List Int → Int → Int → Int → Int → Bool → Option (Bool)
  | 0, _, _, _, _, _, _ => none
  | k + 1, x0, x3, x4, x5, x10, x160 => if x160 = true then (some false) else (if x4 > 0 then ((impl_HeightAt.f x3 (wrap64 (x4 - 1))).bind fun bt240 => (if bt240.2 = 0 then (if bt240.1 ≥ x5 then (some false) else (laws_FnFlights.j2 k x0 x3 x10)) else (some false))) else (laws_FnFlights.j2 k x0 x3 x10))
def laws_FnFlights.j2 : Nat → List Int → Int → Int → Option (Bool)
  | 0, _, _, _ => none
  | k + 1, x0, x3, x10 => if x10 = 1 then (some true) else ((laws_roll.f k x0 402).bind fun bt242 => ((laws_dice_below.f bt242.1 bt242.2.1 bt242.2.2 (wrap64 (x10 - 1))).bind fun bt246 => ((impl_HeightAt.f x3 (wrap64 (1 + bt246.1))).bind fun bt249 => (if bt249.2 = 0 then (some (decide (bt249.1 > 0))) else (some false)))))
end
def laws_FnFlights.f (k : Nat) (l0 : List Int) : Option (Bool) := (laws_big.f l0).bind fun t209 => (if t209 = true then (some true) else ((spec_DrawTopOf.f k l0).bind fun t210 => ((impl_TopOf.f k t210).bind fun bt211 => ((spec_TopOf.f k t210).bind fun bt214 => ((impl_FlightOf.f k t210).bind fun bt217 => ((spec_FlightOf.f k t210).bind fun bt219 => ((spec_DrawHeightAt.f k l0).bind fun bt221 => ((impl_HeightAt.f bt221.1 bt221.2).bind fun bt223 => ((spec_HeightAt.f bt221.1 bt221.2).bind fun bt225 => (if bt211.2.2 = bt214.2.2 then (if bt211.1 = bt214.1 then (if bt211.2.1 = bt214.2.1 then (if bt217.2 = bt219.2 then (if bt217.1 = bt219.1 then (if bt223.2 = bt225.2 then (if bt223.1 = bt225.1 then (laws_FnFlights.j0 k l0 t210 bt211.1 bt211.2.1 bt211.2.2 bt217.1 (bt217.2 != bt211.2.2)) else (laws_FnFlights.j0 k l0 t210 bt211.1 bt211.2.1 bt211.2.2 bt217.1 true)) else (laws_FnFlights.j0 k l0 t210 bt211.1 bt211.2.1 bt211.2.2 bt217.1 true)) else (laws_FnFlights.j0 k l0 t210 bt211.1 bt211.2.1 bt211.2.2 bt217.1 true)) else (laws_FnFlights.j0 k l0 t210 bt211.1 bt211.2.1 bt211.2.2 bt217.1 true)) else (laws_FnFlights.j0 k l0 t210 bt211.1 bt211.2.1 bt211.2.2 bt217.1 true)) else (laws_FnFlights.j0 k l0 t210 bt211.1 bt211.2.1 bt211.2.2 bt217.1 true)) else (laws_FnFlights.j0 k l0 t210 bt211.1 bt211.2.1 bt211.2.2 bt217.1 true)))))))))))
theorem laws_FnFlights.mono_l : ∀ k, (∀ y0 y1 y2 y3 y4 y5 y6, LeO (laws_FnFlights.j0 k y0 y1 y2 y3 y4 y5 y6) (laws_FnFlights.j0 (k + 1) y0 y1 y2 y3 y4 y5 y6)) ∧ (∀ y0 y1 y2 y3 y4 y5, LeO (laws_FnFlights.j1 k y0 y1 y2 y3 y4 y5) (laws_FnFlights.j1 (k + 1) y0 y1 y2 y3 y4 y5)) ∧ (∀ y0 y1 y2, LeO (laws_FnFlights.j2 k y0 y1 y2) (laws_FnFlights.j2 (k + 1) y0 y1 y2))
  | 0 => ⟨fun _ _ _ _ _ _ _ r h => by simp [laws_FnFlights.j0] at h, fun _ _ _ _ _ _ r h => by simp [laws_FnFlights.j1] at h, fun _ _ _ r h => by simp [laws_FnFlights.j2] at h⟩
  | k + 1 => by
    obtain ⟨ih0, ih1, ih2⟩ := laws_FnFlights.mono_l k
    refine ⟨?_, ?_, ?_⟩
    · intro y0 y1 y2 y3 y4 y5 y6
      unfold laws_FnFlights.j0
      repeat' first
      | (with_reducible exact ih0 _ _ _ _ _ _ _)
      | (with_reducible exact ih1 _ _ _ _ _ _)
      | (with_reducible exact ih2 _ _ _)
      | (with_reducible exact impl_FlightOf.mono _ _)
      | (with_reducible exact impl_TopOf.mono _ _)
      | (with_reducible exact laws_roll.mono _ _ _)
      | (with_reducible exact spec_DrawHeightAt.mono _ _)
      | (with_reducible exact spec_DrawTopOf.mono _ _)
      | (with_reducible exact spec_FlightOf.mono _ _)
      | (with_reducible exact spec_TopOf.mono _ _)
      | (with_reducible exact LeO.refl _)
      | (with_reducible exact LeO.none _)
      | (with_reducible refine LeO.ite ?_ ?_)
      | (with_reducible refine LeO.bind ?_ (fun _ => ?_))
      | exact ih0 _ _ _ _ _ _ _
      | exact ih1 _ _ _ _ _ _
      | exact ih2 _ _ _
      | exact impl_FlightOf.mono _ _
      | exact impl_TopOf.mono _ _
      | exact laws_roll.mono _ _ _
      | exact spec_DrawHeightAt.mono _ _
      | exact spec_DrawTopOf.mono _ _
      | exact spec_FlightOf.mono _ _
      | exact spec_TopOf.mono _ _
      | exact LeO.none _
      | refine LeO.ite ?_ ?_
      | refine LeO.bind ?_ (fun _ => ?_)
    · intro y0 y1 y2 y3 y4 y5
      unfold laws_FnFlights.j1
      repeat' first
      | (with_reducible exact ih0 _ _ _ _ _ _ _)
      | (with_reducible exact ih1 _ _ _ _ _ _)
      | (with_reducible exact ih2 _ _ _)
      | (with_reducible exact impl_FlightOf.mono _ _)
      | (with_reducible exact impl_TopOf.mono _ _)
      | (with_reducible exact laws_roll.mono _ _ _)
      | (with_reducible exact spec_DrawHeightAt.mono _ _)
      | (with_reducible exact spec_DrawTopOf.mono _ _)
      | (with_reducible exact spec_FlightOf.mono _ _)
      | (with_reducible exact spec_TopOf.mono _ _)
      | (with_reducible exact LeO.refl _)
      | (with_reducible exact LeO.none _)
      | (with_reducible refine LeO.ite ?_ ?_)
      | (with_reducible refine LeO.bind ?_ (fun _ => ?_))
      | exact ih0 _ _ _ _ _ _ _
      | exact ih1 _ _ _ _ _ _
      | exact ih2 _ _ _
      | exact impl_FlightOf.mono _ _
      | exact impl_TopOf.mono _ _
      | exact laws_roll.mono _ _ _
      | exact spec_DrawHeightAt.mono _ _
      | exact spec_DrawTopOf.mono _ _
      | exact spec_FlightOf.mono _ _
      | exact spec_TopOf.mono _ _
      | exact LeO.none _
      | refine LeO.ite ?_ ?_
      | refine LeO.bind ?_ (fun _ => ?_)
    · intro y0 y1 y2
      unfold laws_FnFlights.j2
      repeat' first
      | (with_reducible exact ih0 _ _ _ _ _ _ _)
      | (with_reducible exact ih1 _ _ _ _ _ _)
      | (with_reducible exact ih2 _ _ _)
      | (with_reducible exact impl_FlightOf.mono _ _)
      | (with_reducible exact impl_TopOf.mono _ _)
      | (with_reducible exact laws_roll.mono _ _ _)
      | (with_reducible exact spec_DrawHeightAt.mono _ _)
      | (with_reducible exact spec_DrawTopOf.mono _ _)
      | (with_reducible exact spec_FlightOf.mono _ _)
      | (with_reducible exact spec_TopOf.mono _ _)
      | (with_reducible exact LeO.refl _)
      | (with_reducible exact LeO.none _)
      | (with_reducible refine LeO.ite ?_ ?_)
      | (with_reducible refine LeO.bind ?_ (fun _ => ?_))
      | exact ih0 _ _ _ _ _ _ _
      | exact ih1 _ _ _ _ _ _
      | exact ih2 _ _ _
      | exact impl_FlightOf.mono _ _
      | exact impl_TopOf.mono _ _
      | exact laws_roll.mono _ _ _
      | exact spec_DrawHeightAt.mono _ _
      | exact spec_DrawTopOf.mono _ _
      | exact spec_FlightOf.mono _ _
      | exact spec_TopOf.mono _ _
      | exact LeO.none _
      | refine LeO.ite ?_ ?_
      | refine LeO.bind ?_ (fun _ => ?_)
theorem laws_FnFlights.mono : ∀ a0 k, LeO (laws_FnFlights.f k a0) (laws_FnFlights.f (k + 1) a0) := by
  intro a0 k
  obtain ⟨ih0, ih1, ih2⟩ := laws_FnFlights.mono_l k
  unfold laws_FnFlights.f
  repeat' first
      | (with_reducible exact ih0 _ _ _ _ _ _ _)
      | (with_reducible exact ih1 _ _ _ _ _ _)
      | (with_reducible exact ih2 _ _ _)
      | (with_reducible exact impl_FlightOf.mono _ _)
      | (with_reducible exact impl_TopOf.mono _ _)
      | (with_reducible exact laws_roll.mono _ _ _)
      | (with_reducible exact spec_DrawHeightAt.mono _ _)
      | (with_reducible exact spec_DrawTopOf.mono _ _)
      | (with_reducible exact spec_FlightOf.mono _ _)
      | (with_reducible exact spec_TopOf.mono _ _)
      | (with_reducible exact LeO.refl _)
      | (with_reducible exact LeO.none _)
      | (with_reducible refine LeO.ite ?_ ?_)
      | (with_reducible refine LeO.bind ?_ (fun _ => ?_))
      | exact ih0 _ _ _ _ _ _ _
      | exact ih1 _ _ _ _ _ _
      | exact ih2 _ _ _
      | exact impl_FlightOf.mono _ _
      | exact impl_TopOf.mono _ _
      | exact laws_roll.mono _ _ _
      | exact spec_DrawHeightAt.mono _ _
      | exact spec_DrawTopOf.mono _ _
      | exact spec_FlightOf.mono _ _
      | exact spec_TopOf.mono _ _
      | exact LeO.none _
      | refine LeO.ite ?_ ?_
      | refine LeO.bind ?_ (fun _ => ?_)
set_option maxHeartbeats 8000000 in
set_option maxRecDepth 100000 in
theorem laws_FnFlights.calls (k : Nat) (A0 : Option Addr) (c0 : Nat) (l0 : List Int) (r : Bool) (w : World) (hr0 : Kd.C (Kd.int .u8) w A0 l0.length l0) (hc0 : l0.length ≤ c0) (h : laws_FnFlights.f k l0 = some r) (hr_ : Aside0 (r = true)) :
    Calls Try.prog 14 #[.slice A0 l0.length c0] w fun e w' => e = .returned (.bool r) ∧ Below w.heap.size w w' := by
  have HR0 := Aside0.mk hr0
  have HC0 := Aside0.mk hc0
  clear hr0 hc0
  have HB := Aside0.mk (Below.refl w.heap.size w)
  have H : ((laws_big.f l0).bind fun t209 => (if t209 = true then (some true) else ((spec_DrawTopOf.f k l0).bind fun t210 => ((impl_TopOf.f k t210).bind fun bt211 => ((spec_TopOf.f k t210).bind fun bt214 => ((impl_FlightOf.f k t210).bind fun bt217 => ((spec_FlightOf.f k t210).bind fun bt219 => ((spec_DrawHeightAt.f k l0).bind fun bt221 => ((impl_HeightAt.f bt221.1 bt221.2).bind fun bt223 => ((spec_HeightAt.f bt221.1 bt221.2).bind fun bt225 => (if bt211.2.2 = bt214.2.2 then (if bt211.1 = bt214.1 then (if bt211.2.1 = bt214.2.1 then (if bt217.2 = bt219.2 then (if bt217.1 = bt219.1 then (if bt223.2 = bt225.2 then (if bt223.1 = bt225.1 then (laws_FnFlights.j0 k l0 t210 bt211.1 bt211.2.1 bt211.2.2 bt217.1 (bt217.2 != bt211.2.2)) else (laws_FnFlights.j0 k l0 t210 bt211.1 bt211.2.1 bt211.2.2 bt217.1 true)) else (laws_FnFlights.j0 k l0 t210 bt211.1 bt211.2.1 bt211.2.2 bt217.1 true)) else (laws_FnFlights.j0 k l0 t210 bt211.1 bt211.2.1 bt211.2.2 bt217.1 true)) else (laws_FnFlights.j0 k l0 t210 bt211.1 bt211.2.1 bt211.2.2 bt217.1 true)) else (laws_FnFlights.j0 k l0 t210 bt211.1 bt211.2.1 bt211.2.2 bt217.1 true)) else (laws_FnFlights.j0 k l0 t210 bt211.1 bt211.2.1 bt211.2.2 bt217.1 true)) else (laws_FnFlights.j0 k l0 t210 bt211.1 bt211.2.1 bt211.2.2 bt217.1 true)))))))))))) = some r := h
  clear h
  replace H := Option.bind_eq_some_iff.mp H
  obtain ⟨t209, A20, H⟩ := H
  replace H : (if t209 = true then (some true) else ((spec_DrawTopOf.f k l0).bind fun t210 => ((impl_TopOf.f k t210).bind fun bt211 => ((spec_TopOf.f k t210).bind fun bt214 => ((impl_FlightOf.f k t210).bind fun bt217 => ((spec_FlightOf.f k t210).bind fun bt219 => ((spec_DrawHeightAt.f k l0).bind fun bt221 => ((impl_HeightAt.f bt221.1 bt221.2).bind fun bt223 => ((spec_HeightAt.f bt221.1 bt221.2).bind fun bt225 => (if bt211.2.2 = bt214.2.2 then (if bt211.1 = bt214.1 then (if bt211.2.1 = bt214.2.1 then (if bt217.2 = bt219.2 then (if bt217.1 = bt219.1 then (if bt223.2 = bt225.2 then (if bt223.1 = bt225.1 then (laws_FnFlights.j0 k l0 t210 bt211.1 bt211.2.1 bt211.2.2 bt217.1 (bt217.2 != bt211.2.2)) else (laws_FnFlights.j0 k l0 t210 bt211.1 bt211.2.1 bt211.2.2 bt217.1 true)) else (laws_FnFlights.j0 k l0 t210 bt211.1 bt211.2.1 bt211.2.2 bt217.1 true)) else (laws_FnFlights.j0 k l0 t210 bt211.1 bt211.2.1 bt211.2.2 bt217.1 true)) else (laws_FnFlights.j0 k l0 t210 bt211.1 bt211.2.1 bt211.2.2 bt217.1 true)) else (laws_FnFlights.j0 k l0 t210 bt211.1 bt211.2.1 bt211.2.2 bt217.1 true)) else (laws_FnFlights.j0 k l0 t210 bt211.1 bt211.2.1 bt211.2.2 bt217.1 true)) else (laws_FnFlights.j0 k l0 t210 bt211.1 bt211.2.1 bt211.2.2 bt217.1 true))))))))))) = some r := H
  have A2 := Aside0.mk A20
  clear A20
  by_cases c3 : t209 = true
  · subst c3
    have H1 : (some true) = some r := by rw [if_pos rfl] at H; exact H
    clear H
    have H := H1
    clear H1
    obtain rfl := Option.some.inj H
    simp only [Option.some.injEq, Prod.mk.injEq] at H
    obtain ⟨rfl⟩ := H
    go_enter Try.func14, Try.ntmps14
    go_wp2_with (first | ((with_reducible refine gate_callee (f := 36) rfl ?_); refine goesL_ (some 31) rfl rfl Try.func36 (by kernel_rfl) rfl #[.slice A0 l0.length c0] rfl (by (try simp only [List.map_toArray, List.map_cons, List.map_nil]); first | done | rfl | (simp only [List.length_drop, List.length_take]; rfl) | (simp; done) | (simp; rfl)) ?_; (with_reducible refine (laws_big.calls _ _ l0 true _ ?side1 ?side2 A2.out).mono ?_); (case side1 => repeat (first | exact HR0.out | (with_reducible refine Kd.C_alloc ?_ _) | (with_reducible refine Kd.C_drewN ?_ _) | (with_reducible refine Kd.C_drew ?_))); (case side2 => exact HC0.out); rintro e w' ⟨rfl, ⟨nd, rfl⟩⟩; refine ⟨_, rfl, ?_⟩))
    go_ret
    exact ⟨by first | rfl | (simp [errW_none, errW_some] <;> rfl) | (simp [*, errW_none, errW_some] <;> rfl), by repeat (first | (with_reducible first | exact HB.out | apply below_alloc | apply pw_below_drewN | apply below_drew1) | exact HB.out)⟩
  · replace c3 := Bool.eq_false_iff.mpr c3
    subst c3
    have H1 : ((spec_DrawTopOf.f k l0).bind fun t210 => ((impl_TopOf.f k t210).bind fun bt211 => ((spec_TopOf.f k t210).bind fun bt214 => ((impl_FlightOf.f k t210).bind fun bt217 => ((spec_FlightOf.f k t210).bind fun bt219 => ((spec_DrawHeightAt.f k l0).bind fun bt221 => ((impl_HeightAt.f bt221.1 bt221.2).bind fun bt223 => ((spec_HeightAt.f bt221.1 bt221.2).bind fun bt225 => (if bt211.2.2 = bt214.2.2 then (if bt211.1 = bt214.1 then (if bt211.2.1 = bt214.2.1 then (if bt217.2 = bt219.2 then (if bt217.1 = bt219.1 then (if bt223.2 = bt225.2 then (if bt223.1 = bt225.1 then (laws_FnFlights.j0 k l0 t210 bt211.1 bt211.2.1 bt211.2.2 bt217.1 (bt217.2 != bt211.2.2)) else (laws_FnFlights.j0 k l0 t210 bt211.1 bt211.2.1 bt211.2.2 bt217.1 true)) else (laws_FnFlights.j0 k l0 t210 bt211.1 bt211.2.1 bt211.2.2 bt217.1 true)) else (laws_FnFlights.j0 k l0 t210 bt211.1 bt211.2.1 bt211.2.2 bt217.1 true)) else (laws_FnFlights.j0 k l0 t210 bt211.1 bt211.2.1 bt211.2.2 bt217.1 true)) else (laws_FnFlights.j0 k l0 t210 bt211.1 bt211.2.1 bt211.2.2 bt217.1 true)) else (laws_FnFlights.j0 k l0 t210 bt211.1 bt211.2.1 bt211.2.2 bt217.1 true)) else (laws_FnFlights.j0 k l0 t210 bt211.1 bt211.2.1 bt211.2.2 bt217.1 true)))))))))) = some r := by rw [if_neg (show ¬ (false = true) by decide)] at H; exact H
    clear H
    have H := H1
    clear H1
    replace H := Option.bind_eq_some_iff.mp H
    obtain ⟨t210, A40, H⟩ := H
    replace H : ((impl_TopOf.f k t210).bind fun bt211 => ((spec_TopOf.f k t210).bind fun bt214 => ((impl_FlightOf.f k t210).bind fun bt217 => ((spec_FlightOf.f k t210).bind fun bt219 => ((spec_DrawHeightAt.f k l0).bind fun bt221 => ((impl_HeightAt.f bt221.1 bt221.2).bind fun bt223 => ((spec_HeightAt.f bt221.1 bt221.2).bind fun bt225 => (if bt211.2.2 = bt214.2.2 then (if bt211.1 = bt214.1 then (if bt211.2.1 = bt214.2.1 then (if bt217.2 = bt219.2 then (if bt217.1 = bt219.1 then (if bt223.2 = bt225.2 then (if bt223.1 = bt225.1 then (laws_FnFlights.j0 k l0 t210 bt211.1 bt211.2.1 bt211.2.2 bt217.1 (bt217.2 != bt211.2.2)) else (laws_FnFlights.j0 k l0 t210 bt211.1 bt211.2.1 bt211.2.2 bt217.1 true)) else (laws_FnFlights.j0 k l0 t210 bt211.1 bt211.2.1 bt211.2.2 bt217.1 true)) else (laws_FnFlights.j0 k l0 t210 bt211.1 bt211.2.1 bt211.2.2 bt217.1 true)) else (laws_FnFlights.j0 k l0 t210 bt211.1 bt211.2.1 bt211.2.2 bt217.1 true)) else (laws_FnFlights.j0 k l0 t210 bt211.1 bt211.2.1 bt211.2.2 bt217.1 true)) else (laws_FnFlights.j0 k l0 t210 bt211.1 bt211.2.1 bt211.2.2 bt217.1 true)) else (laws_FnFlights.j0 k l0 t210 bt211.1 bt211.2.1 bt211.2.2 bt217.1 true))))))))) = some r := H
    have A4 := Aside0.mk A40
    clear A40
    replace H := Option.bind_eq_some_iff.mp H
    obtain ⟨⟨t211, t212, t213⟩, A50, H⟩ := H
    replace H : ((spec_TopOf.f k t210).bind fun bt214 => ((impl_FlightOf.f k t210).bind fun bt217 => ((spec_FlightOf.f k t210).bind fun bt219 => ((spec_DrawHeightAt.f k l0).bind fun bt221 => ((impl_HeightAt.f bt221.1 bt221.2).bind fun bt223 => ((spec_HeightAt.f bt221.1 bt221.2).bind fun bt225 => (if t213 = bt214.2.2 then (if t211 = bt214.1 then (if t212 = bt214.2.1 then (if bt217.2 = bt219.2 then (if bt217.1 = bt219.1 then (if bt223.2 = bt225.2 then (if bt223.1 = bt225.1 then (laws_FnFlights.j0 k l0 t210 t211 t212 t213 bt217.1 (bt217.2 != t213)) else (laws_FnFlights.j0 k l0 t210 t211 t212 t213 bt217.1 true)) else (laws_FnFlights.j0 k l0 t210 t211 t212 t213 bt217.1 true)) else (laws_FnFlights.j0 k l0 t210 t211 t212 t213 bt217.1 true)) else (laws_FnFlights.j0 k l0 t210 t211 t212 t213 bt217.1 true)) else (laws_FnFlights.j0 k l0 t210 t211 t212 t213 bt217.1 true)) else (laws_FnFlights.j0 k l0 t210 t211 t212 t213 bt217.1 true)) else (laws_FnFlights.j0 k l0 t210 t211 t212 t213 bt217.1 true)))))))) = some r := H
    have A5 := Aside0.mk A50
    clear A50
    replace H := Option.bind_eq_some_iff.mp H
    obtain ⟨⟨t214, t215, t216⟩, A60, H⟩ := H
    replace H : ((impl_FlightOf.f k t210).bind fun bt217 => ((spec_FlightOf.f k t210).bind fun bt219 => ((spec_DrawHeightAt.f k l0).bind fun bt221 => ((impl_HeightAt.f bt221.1 bt221.2).bind fun bt223 => ((spec_HeightAt.f bt221.1 bt221.2).bind fun bt225 => (if t213 = t216 then (if t211 = t214 then (if t212 = t215 then (if bt217.2 = bt219.2 then (if bt217.1 = bt219.1 then (if bt223.2 = bt225.2 then (if bt223.1 = bt225.1 then (laws_FnFlights.j0 k l0 t210 t211 t212 t213 bt217.1 (bt217.2 != t213)) else (laws_FnFlights.j0 k l0 t210 t211 t212 t213 bt217.1 true)) else (laws_FnFlights.j0 k l0 t210 t211 t212 t213 bt217.1 true)) else (laws_FnFlights.j0 k l0 t210 t211 t212 t213 bt217.1 true)) else (laws_FnFlights.j0 k l0 t210 t211 t212 t213 bt217.1 true)) else (laws_FnFlights.j0 k l0 t210 t211 t212 t213 bt217.1 true)) else (laws_FnFlights.j0 k l0 t210 t211 t212 t213 bt217.1 true)) else (laws_FnFlights.j0 k l0 t210 t211 t212 t213 bt217.1 true))))))) = some r := H
    have A6 := Aside0.mk A60
    clear A60
    replace H := Option.bind_eq_some_iff.mp H
    obtain ⟨⟨t217, t218⟩, A70, H⟩ := H
    replace H : ((spec_FlightOf.f k t210).bind fun bt219 => ((spec_DrawHeightAt.f k l0).bind fun bt221 => ((impl_HeightAt.f bt221.1 bt221.2).bind fun bt223 => ((spec_HeightAt.f bt221.1 bt221.2).bind fun bt225 => (if t213 = t216 then (if t211 = t214 then (if t212 = t215 then (if t218 = bt219.2 then (if t217 = bt219.1 then (if bt223.2 = bt225.2 then (if bt223.1 = bt225.1 then (laws_FnFlights.j0 k l0 t210 t211 t212 t213 t217 (t218 != t213)) else (laws_FnFlights.j0 k l0 t210 t211 t212 t213 t217 true)) else (laws_FnFlights.j0 k l0 t210 t211 t212 t213 t217 true)) else (laws_FnFlights.j0 k l0 t210 t211 t212 t213 t217 true)) else (laws_FnFlights.j0 k l0 t210 t211 t212 t213 t217 true)) else (laws_FnFlights.j0 k l0 t210 t211 t212 t213 t217 true)) else (laws_FnFlights.j0 k l0 t210 t211 t212 t213 t217 true)) else (laws_FnFlights.j0 k l0 t210 t211 t212 t213 t217 true)))))) = some r := H
    have A7 := Aside0.mk A70
    clear A70
    replace H := Option.bind_eq_some_iff.mp H
    obtain ⟨⟨t219, t220⟩, A80, H⟩ := H
    replace H : ((spec_DrawHeightAt.f k l0).bind fun bt221 => ((impl_HeightAt.f bt221.1 bt221.2).bind fun bt223 => ((spec_HeightAt.f bt221.1 bt221.2).bind fun bt225 => (if t213 = t216 then (if t211 = t214 then (if t212 = t215 then (if t218 = t220 then (if t217 = t219 then (if bt223.2 = bt225.2 then (if bt223.1 = bt225.1 then (laws_FnFlights.j0 k l0 t210 t211 t212 t213 t217 (t218 != t213)) else (laws_FnFlights.j0 k l0 t210 t211 t212 t213 t217 true)) else (laws_FnFlights.j0 k l0 t210 t211 t212 t213 t217 true)) else (laws_FnFlights.j0 k l0 t210 t211 t212 t213 t217 true)) else (laws_FnFlights.j0 k l0 t210 t211 t212 t213 t217 true)) else (laws_FnFlights.j0 k l0 t210 t211 t212 t213 t217 true)) else (laws_FnFlights.j0 k l0 t210 t211 t212 t213 t217 true)) else (laws_FnFlights.j0 k l0 t210 t211 t212 t213 t217 true))))) = some r := H
    have A8 := Aside0.mk A80
    clear A80
    replace H := Option.bind_eq_some_iff.mp H
    obtain ⟨⟨t221, t222⟩, A90, H⟩ := H
    replace H : ((impl_HeightAt.f t221 t222).bind fun bt223 => ((spec_HeightAt.f t221 t222).bind fun bt225 => (if t213 = t216 then (if t211 = t214 then (if t212 = t215 then (if t218 = t220 then (if t217 = t219 then (if bt223.2 = bt225.2 then (if bt223.1 = bt225.1 then (laws_FnFlights.j0 k l0 t210 t211 t212 t213 t217 (t218 != t213)) else (laws_FnFlights.j0 k l0 t210 t211 t212 t213 t217 true)) else (laws_FnFlights.j0 k l0 t210 t211 t212 t213 t217 true)) else (laws_FnFlights.j0 k l0 t210 t211 t212 t213 t217 true)) else (laws_FnFlights.j0 k l0 t210 t211 t212 t213 t217 true)) else (laws_FnFlights.j0 k l0 t210 t211 t212 t213 t217 true)) else (laws_FnFlights.j0 k l0 t210 t211 t212 t213 t217 true)) else (laws_FnFlights.j0 k l0 t210 t211 t212 t213 t217 true)))) = some r := H
    have A9 := Aside0.mk A90
    clear A90
    replace H := Option.bind_eq_some_iff.mp H
    obtain ⟨⟨t223, t224⟩, A100, H⟩ := H
    replace H : ((spec_HeightAt.f t221 t222).bind fun bt225 => (if t213 = t216 then (if t211 = t214 then (if t212 = t215 then (if t218 = t220 then (if t217 = t219 then (if t224 = bt225.2 then (if t223 = bt225.1 then (laws_FnFlights.j0 k l0 t210 t211 t212 t213 t217 (t218 != t213)) else (laws_FnFlights.j0 k l0 t210 t211 t212 t213 t217 true)) else (laws_FnFlights.j0 k l0 t210 t211 t212 t213 t217 true)) else (laws_FnFlights.j0 k l0 t210 t211 t212 t213 t217 true)) else (laws_FnFlights.j0 k l0 t210 t211 t212 t213 t217 true)) else (laws_FnFlights.j0 k l0 t210 t211 t212 t213 t217 true)) else (laws_FnFlights.j0 k l0 t210 t211 t212 t213 t217 true)) else (laws_FnFlights.j0 k l0 t210 t211 t212 t213 t217 true))) = some r := H
    have A10 := Aside0.mk A100
    clear A100
    replace H := Option.bind_eq_some_iff.mp H
    obtain ⟨⟨t225, t226⟩, A110, H⟩ := H
    replace H : (if t213 = t216 then (if t211 = t214 then (if t212 = t215 then (if t218 = t220 then (if t217 = t219 then (if t224 = t226 then (if t223 = t225 then (laws_FnFlights.j0 k l0 t210 t211 t212 t213 t217 (t218 != t213)) else (laws_FnFlights.j0 k l0 t210 t211 t212 t213 t217 true)) else (laws_FnFlights.j0 k l0 t210 t211 t212 t213 t217 true)) else (laws_FnFlights.j0 k l0 t210 t211 t212 t213 t217 true)) else (laws_FnFlights.j0 k l0 t210 t211 t212 t213 t217 true)) else (laws_FnFlights.j0 k l0 t210 t211 t212 t213 t217 true)) else (laws_FnFlights.j0 k l0 t210 t211 t212 t213 t217 true)) else (laws_FnFlights.j0 k l0 t210 t211 t212 t213 t217 true)) = some r := H
    have A11 := Aside0.mk A110
    clear A110
    have HC12 := Aside0.mk H
    clear H
    go_enter Try.func14, Try.ntmps14
    go_upto_region 11 with (first | ((with_reducible refine gate_callee (f := 36) rfl ?_); refine goesL_ (some 31) rfl rfl Try.func36 (by kernel_rfl) rfl #[.slice A0 l0.length c0] rfl (by (try simp only [List.map_toArray, List.map_cons, List.map_nil]); first | done | rfl | (simp only [List.length_drop, List.length_take]; rfl) | (simp; done) | (simp; rfl)) ?_; (with_reducible refine (laws_big.calls _ _ l0 false _ ?side1 ?side2 A2.out).mono ?_); (case side1 => repeat (first | exact HR0.out | (with_reducible refine Kd.C_alloc ?_ _) | (with_reducible refine Kd.C_drewN ?_ _) | (with_reducible refine Kd.C_drew ?_))); (case side2 => exact HC0.out); rintro e w' ⟨rfl, ⟨nd, rfl⟩⟩; refine ⟨_, rfl, ?_⟩) | ((with_reducible refine gate_callee (f := 42) rfl ?_); refine goesL_ (some 33) rfl rfl Try.func42 (by kernel_rfl) rfl #[.slice A0 l0.length c0] rfl (by (try simp only [List.map_toArray, List.map_cons, List.map_nil]); first | done | rfl | (simp only [List.length_drop, List.length_take]; rfl) | (simp; done) | (simp; rfl)) ?_; (with_reducible refine (spec_DrawTopOf.calls k _ _ l0 t210 _ ?side1 ?side2 A4.out).mono ?_); (case side1 => repeat (first | exact HR0.out | (with_reducible refine Kd.C_alloc ?_ _) | (with_reducible refine Kd.C_drewN ?_ _) | (with_reducible refine Kd.C_drew ?_))); (case side2 => exact HC0.out); rintro e w13 ⟨rfl, hb⟩; refine ⟨_, rfl, ?_⟩; have n0_ := Aside0.mk (below_step (by repeat (first | (with_reducible first | exact HB.out | apply below_alloc | apply pw_below_drewN | apply below_drew1) | exact HB.out)) hb); clear HB; have HB := n0_; clear n0_; (try clear hb); (try clear hb2); (try clear hk); (try clear hi)) | ((with_reducible refine gate_callee (f := 27) rfl ?_); refine goesL_ (some 36) rfl rfl Try.func27 (by kernel_rfl) rfl #[.int .i64 t210] rfl (by (try simp only [List.map_toArray, List.map_cons, List.map_nil]); first | done | rfl | (simp only [List.length_drop, List.length_take]; rfl) | (simp; done) | (simp; rfl)) ?_; (with_reducible refine (impl_TopOf.calls k t210 t211 t212 t213 _ A5.out).mono ?_); rintro e w' ⟨rfl, ⟨nd, rfl⟩⟩; refine ⟨_, rfl, ?_⟩) | ((with_reducible refine gate_callee (f := 26) rfl ?_); refine goesL_ (some 42) rfl rfl Try.func26 (by kernel_rfl) rfl #[.int .i64 t210] rfl (by (try simp only [List.map_toArray, List.map_cons, List.map_nil]); first | done | rfl | (simp only [List.length_drop, List.length_take]; rfl) | (simp; done) | (simp; rfl)) ?_; (with_reducible refine (spec_TopOf.calls k t210 t214 t215 t216 _ A6.out).mono ?_); rintro e w14 ⟨rfl, hb⟩; refine ⟨_, rfl, ?_⟩; have n0_ := Aside0.mk (below_step (by repeat (first | (with_reducible first | exact HB.out | apply below_alloc | apply pw_below_drewN | apply below_drew1) | exact HB.out)) hb); clear HB; have HB := n0_; clear n0_; (try clear hb); (try clear hb2); (try clear hk); (try clear hi)) | ((with_reducible refine gate_callee (f := 31) rfl ?_); refine goesL_ (some 48) rfl rfl Try.func31 (by kernel_rfl) rfl #[.int .i64 t210] rfl (by (try simp only [List.map_toArray, List.map_cons, List.map_nil]); first | done | rfl | (simp only [List.length_drop, List.length_take]; rfl) | (simp; done) | (simp; rfl)) ?_; (with_reducible refine (impl_FlightOf.calls k t210 t217 t218 _ A7.out).mono ?_); rintro e w' ⟨rfl, ⟨nd, rfl⟩⟩; refine ⟨_, rfl, ?_⟩) | ((with_reducible refine gate_callee (f := 30) rfl ?_); refine goesL_ (some 53) rfl rfl Try.func30 (by kernel_rfl) rfl #[.int .i64 t210] rfl (by (try simp only [List.map_toArray, List.map_cons, List.map_nil]); first | done | rfl | (simp only [List.length_drop, List.length_take]; rfl) | (simp; done) | (simp; rfl)) ?_; (with_reducible refine (spec_FlightOf.calls k t210 t219 t220 _ A8.out).mono ?_); rintro e w15 ⟨rfl, hb⟩; refine ⟨_, rfl, ?_⟩; have n0_ := Aside0.mk (below_step (by repeat (first | (with_reducible first | exact HB.out | apply below_alloc | apply pw_below_drewN | apply below_drew1) | exact HB.out)) hb); clear HB; have HB := n0_; clear n0_; (try clear hb); (try clear hb2); (try clear hk); (try clear hi)) | ((with_reducible refine gate_callee (f := 43) rfl ?_); refine goesL_ (some 58) rfl rfl Try.func43 (by kernel_rfl) rfl #[.slice A0 l0.length c0] rfl (by (try simp only [List.map_toArray, List.map_cons, List.map_nil]); first | done | rfl | (simp only [List.length_drop, List.length_take]; rfl) | (simp; done) | (simp; rfl)) ?_; (with_reducible refine (spec_DrawHeightAt.calls k _ _ l0 t221 t222 _ ?side1 ?side2 A9.out).mono ?_); (case side1 => repeat (first | exact (Kd.C_below HR0.out HB.out) | (with_reducible refine Kd.C_alloc ?_ _) | (with_reducible refine Kd.C_drewN ?_ _) | (with_reducible refine Kd.C_drew ?_))); (case side2 => exact HC0.out); rintro e w16 ⟨rfl, hb⟩; refine ⟨_, rfl, ?_⟩; have n0_ := Aside0.mk (below_step (by repeat (first | (with_reducible first | exact HB.out | apply below_alloc | apply pw_below_drewN | apply below_drew1) | exact HB.out)) hb); clear HB; have HB := n0_; clear n0_; (try clear hb); (try clear hb2); (try clear hk); (try clear hi)) | ((with_reducible refine gate_callee (f := 23) rfl ?_); refine goesL_ (some 64) rfl rfl Try.func23 (by kernel_rfl) rfl #[.int .i64 t221, .int .i64 t222] rfl (by (try simp only [List.map_toArray, List.map_cons, List.map_nil]); first | done | rfl | (simp only [List.length_drop, List.length_take]; rfl) | (simp; done) | (simp; rfl)) ?_; (with_reducible refine (impl_HeightAt.calls t221 t222 t223 t224 _ A10.out).mono ?_); rintro e w' ⟨rfl, ⟨nd, rfl⟩⟩; refine ⟨_, rfl, ?_⟩) | ((with_reducible refine gate_callee (f := 22) rfl ?_); refine goesL_ (some 70) rfl rfl Try.func22 (by kernel_rfl) rfl #[.int .i64 t221, .int .i64 t222] rfl (by (try simp only [List.map_toArray, List.map_cons, List.map_nil]); first | done | rfl | (simp only [List.length_drop, List.length_take]; rfl) | (simp; done) | (simp; rfl)) ?_; (with_reducible refine (spec_HeightAt.calls t221 t222 t225 t226 _ A11.out).mono ?_); rintro e w' ⟨rfl, ⟨nd, rfl⟩⟩; refine ⟨_, rfl, ?_⟩))
    (try simp only [Act.put, List.setIfInBounds_toArray, List.set_cons_zero, List.set_cons_succ])
    go_cut [110] (fun v110 wc => ∃ (kq : Nat) (x110_11 : Bool), v110 = .bool x110_11 ∧ Aside0 (laws_FnFlights.j0 kq l0 t210 t211 t212 t213 t217 x110_11 = some r) ∧ Aside0 (kq ≤ k) ∧ Aside0 (Below w.heap.size w wc))
    case first =>
      have H := HC12.out
      clear HC12
      by_cases c17 : t213 = t216
      · rw [if_pos c17] at H
        have c17b0 : (t213 == t216) = true := beq_iff_eq.mpr c17
        have c17b1 : (t213 != t216) = false := bne_eq_false_iff_eq.mpr c17
        clear c17
        (first | rw [c17b0] | (simp only [i64_w, i32_w]; rw [c17b0]) | skip)
        by_cases c18 : t211 = t214
        · rw [if_pos c18] at H
          have c18b0 : (t211 == t214) = true := beq_iff_eq.mpr c18
          have c18b1 : (t211 != t214) = false := bne_eq_false_iff_eq.mpr c18
          clear c18
          by_cases c19 : t212 = t215
          · rw [if_pos c19] at H
            have c19b0 : (t212 == t215) = true := beq_iff_eq.mpr c19
            have c19b1 : (t212 != t215) = false := bne_eq_false_iff_eq.mpr c19
            clear c19
            by_cases c20 : t218 = t220
            · rw [if_pos c20] at H
              have c20b0 : (t218 == t220) = true := beq_iff_eq.mpr c20
              have c20b1 : (t218 != t220) = false := bne_eq_false_iff_eq.mpr c20
              clear c20
              by_cases c21 : t217 = t219
              · rw [if_pos c21] at H
                have c21b0 : (t217 == t219) = true := beq_iff_eq.mpr c21
                have c21b1 : (t217 != t219) = false := bne_eq_false_iff_eq.mpr c21
                clear c21
                by_cases c22 : t224 = t226
                · rw [if_pos c22] at H
                  have c22b0 : (t224 == t226) = true := beq_iff_eq.mpr c22
                  have c22b1 : (t224 != t226) = false := bne_eq_false_iff_eq.mpr c22
                  clear c22
                  by_cases c23 : t223 = t225
                  · rw [if_pos c23] at H
                    have c23b0 : (t223 == t225) = true := beq_iff_eq.mpr c23
                    have c23b1 : (t223 != t225) = false := bne_eq_false_iff_eq.mpr c23
                    clear c23
                    have H' := Aside0.mk H
                    clear H
                    go_wp2
                    go_meet
                    case rel => exact ⟨_, ((t218 != t213)), (by first | rfl | (simp; done) | (simp [*]; done)), H', ⟨by first | omega | exact Nat.le_refl _⟩, ⟨by repeat (first | (with_reducible first | exact HB.out | apply below_alloc | apply pw_below_drewN | apply below_drew1) | exact HB.out)⟩⟩
                  · rw [if_neg c23] at H
                    have c23b0 : (t223 == t225) = false := beq_eq_false_iff_ne.mpr c23
                    have c23b1 : (t223 != t225) = true := bne_iff_ne.mpr c23
                    have H' := Aside0.mk H
                    clear H
                    go_wp2
                    go_meet
                    case rel => exact ⟨_, (true), (by first | rfl | (simp; done) | (simp [*]; done)), H', ⟨by first | omega | exact Nat.le_refl _⟩, ⟨by repeat (first | (with_reducible first | exact HB.out | apply below_alloc | apply pw_below_drewN | apply below_drew1) | exact HB.out)⟩⟩
                · rw [if_neg c22] at H
                  have c22b0 : (t224 == t226) = false := beq_eq_false_iff_ne.mpr c22
                  have c22b1 : (t224 != t226) = true := bne_iff_ne.mpr c22
                  have H' := Aside0.mk H
                  clear H
                  go_wp2
                  go_meet
                  case rel => exact ⟨_, (true), (by first | rfl | (simp; done) | (simp [*]; done)), H', ⟨by first | omega | exact Nat.le_refl _⟩, ⟨by repeat (first | (with_reducible first | exact HB.out | apply below_alloc | apply pw_below_drewN | apply below_drew1) | exact HB.out)⟩⟩
              · rw [if_neg c21] at H
                have c21b0 : (t217 == t219) = false := beq_eq_false_iff_ne.mpr c21
                have c21b1 : (t217 != t219) = true := bne_iff_ne.mpr c21
                have H' := Aside0.mk H
                clear H
                go_wp2
                go_meet
                case rel => exact ⟨_, (true), (by first | rfl | (simp; done) | (simp [*]; done)), H', ⟨by first | omega | exact Nat.le_refl _⟩, ⟨by repeat (first | (with_reducible first | exact HB.out | apply below_alloc | apply pw_below_drewN | apply below_drew1) | exact HB.out)⟩⟩
            · rw [if_neg c20] at H
              have c20b0 : (t218 == t220) = false := beq_eq_false_iff_ne.mpr c20
              have c20b1 : (t218 != t220) = true := bne_iff_ne.mpr c20
              have H' := Aside0.mk H
              clear H
              go_wp2
              go_meet
              case rel => exact ⟨_, (true), (by first | rfl | (simp; done) | (simp [*]; done)), H', ⟨by first | omega | exact Nat.le_refl _⟩, ⟨by repeat (first | (with_reducible first | exact HB.out | apply below_alloc | apply pw_below_drewN | apply below_drew1) | exact HB.out)⟩⟩
          · rw [if_neg c19] at H
            have c19b0 : (t212 == t215) = false := beq_eq_false_iff_ne.mpr c19
            have c19b1 : (t212 != t215) = true := bne_iff_ne.mpr c19
            have H' := Aside0.mk H
            clear H
            go_wp2
            go_meet
            case rel => exact ⟨_, (true), (by first | rfl | (simp; done) | (simp [*]; done)), H', ⟨by first | omega | exact Nat.le_refl _⟩, ⟨by repeat (first | (with_reducible first | exact HB.out | apply below_alloc | apply pw_below_drewN | apply below_drew1) | exact HB.out)⟩⟩
        · rw [if_neg c18] at H
          have c18b0 : (t211 == t214) = false := beq_eq_false_iff_ne.mpr c18
          have c18b1 : (t211 != t214) = true := bne_iff_ne.mpr c18
          have H' := Aside0.mk H
          clear H
          go_wp2
          go_meet
          case rel => exact ⟨_, (true), (by first | rfl | (simp; done) | (simp [*]; done)), H', ⟨by first | omega | exact Nat.le_refl _⟩, ⟨by repeat (first | (with_reducible first | exact HB.out | apply below_alloc | apply pw_below_drewN | apply below_drew1) | exact HB.out)⟩⟩
      · rw [if_neg c17] at H
        have c17b0 : (t213 == t216) = false := beq_eq_false_iff_ne.mpr c17
        have c17b1 : (t213 != t216) = true := bne_iff_ne.mpr c17
        (first | rw [c17b0] | (simp only [i64_w, i32_w]; rw [c17b0]) | skip)
        have H' := Aside0.mk H
        clear H
        go_wp2
        go_meet
        case rel => exact ⟨_, (true), (by first | rfl | (simp; done) | (simp [*]; done)), H', ⟨by first | omega | exact Nat.le_refl _⟩, ⟨by repeat (first | (with_reducible first | exact HB.out | apply below_alloc | apply pw_below_drewN | apply below_drew1) | exact HB.out)⟩⟩
    case rest =>
      clear HC12
      try clear c1
      try clear c2
      try clear p2
      try clear c3
      try clear c4
      try clear c14
      try clear c17
      try clear c17b0
      try clear c17b1
      try clear c18
      try clear c18b0
      try clear c18b1
      try clear c19
      try clear c19b0
      try clear c19b1
      try clear c20
      try clear c20b0
      try clear c20b1
      try clear c21
      try clear c21b0
      try clear c21b1
      try clear c22
      try clear c22b0
      try clear c22b1
      try clear c23
      try clear c23b0
      try clear c23b1
      obtain ⟨kq, x110_11, rfl, HA, HJ11, HB⟩ := hcut
      cases kq with
      | zero => exact absurd HA.out (by simp [laws_FnFlights.j0])
      | succ kj11 =>
        have H := HA.out
        clear HA
        simp only [laws_FnFlights.j0] at H
        by_cases c24 : x110_11 = true
        · subst c24
          have H1 : (some false) = some r := by rw [if_pos rfl] at H; exact H
          clear H
          have H := H1
          clear H1
          obtain rfl := Option.some.inj H
          exact absurd hr_.out (by decide)
        · replace c24 := Bool.eq_false_iff.mpr c24
          subst c24
          have H1 : (if t213 = 0 then ((impl_HeightAt.f t210 t211).bind fun bt227 => ((laws_roll.f kj11 l0 401).bind fun bt229 => ((laws_dice_below.f bt229.1 bt229.2.1 bt229.2.2 60001).bind fun bt233 => ((impl_HeightAt.f t210 bt233.1).bind fun bt236 => ((impl_HeightAt.f t210 t217).bind fun bt238 => (if bt227.2 = 0 then (if bt227.1 = t212 then (if bt236.2 = 0 then (if bt236.1 > t212 then (laws_FnFlights.j1 kj11 l0 t210 t211 t212 t217 true) else (if bt238.2 = 0 then (if bt238.1 > 0 then (laws_FnFlights.j1 kj11 l0 t210 t211 t212 t217 true) else (laws_FnFlights.j1 kj11 l0 t210 t211 t212 t217 (decide (t217 < 1)))) else (laws_FnFlights.j1 kj11 l0 t210 t211 t212 t217 true))) else (laws_FnFlights.j1 kj11 l0 t210 t211 t212 t217 true)) else (laws_FnFlights.j1 kj11 l0 t210 t211 t212 t217 true)) else (laws_FnFlights.j1 kj11 l0 t210 t211 t212 t217 true))))))) else (some true)) = some r := by rw [if_neg (show ¬ (false = true) by decide)] at H; exact H
          clear H
          have H := H1
          clear H1
          by_cases c25 : t213 = 0
          · rw [if_pos c25] at H
            have c25b0 : (t213 == 0) = true := beq_iff_eq.mpr c25
            have c25b1 : (t213 != 0) = false := bne_eq_false_iff_eq.mpr c25
            clear c25
            replace H := Option.bind_eq_some_iff.mp H
            obtain ⟨⟨t227, t228⟩, A260, H⟩ := H
            replace H : ((laws_roll.f kj11 l0 401).bind fun bt229 => ((laws_dice_below.f bt229.1 bt229.2.1 bt229.2.2 60001).bind fun bt233 => ((impl_HeightAt.f t210 bt233.1).bind fun bt236 => ((impl_HeightAt.f t210 t217).bind fun bt238 => (if t228 = 0 then (if t227 = t212 then (if bt236.2 = 0 then (if bt236.1 > t212 then (laws_FnFlights.j1 kj11 l0 t210 t211 t212 t217 true) else (if bt238.2 = 0 then (if bt238.1 > 0 then (laws_FnFlights.j1 kj11 l0 t210 t211 t212 t217 true) else (laws_FnFlights.j1 kj11 l0 t210 t211 t212 t217 (decide (t217 < 1)))) else (laws_FnFlights.j1 kj11 l0 t210 t211 t212 t217 true))) else (laws_FnFlights.j1 kj11 l0 t210 t211 t212 t217 true)) else (laws_FnFlights.j1 kj11 l0 t210 t211 t212 t217 true)) else (laws_FnFlights.j1 kj11 l0 t210 t211 t212 t217 true)))))) = some r := H
            have A26 := Aside0.mk A260
            clear A260
            replace H := Option.bind_eq_some_iff.mp H
            obtain ⟨⟨t229, t230, t231⟩, A270, H⟩ := H
            replace H : ((laws_dice_below.f t229 t230 t231 60001).bind fun bt233 => ((impl_HeightAt.f t210 bt233.1).bind fun bt236 => ((impl_HeightAt.f t210 t217).bind fun bt238 => (if t228 = 0 then (if t227 = t212 then (if bt236.2 = 0 then (if bt236.1 > t212 then (laws_FnFlights.j1 kj11 l0 t210 t211 t212 t217 true) else (if bt238.2 = 0 then (if bt238.1 > 0 then (laws_FnFlights.j1 kj11 l0 t210 t211 t212 t217 true) else (laws_FnFlights.j1 kj11 l0 t210 t211 t212 t217 (decide (t217 < 1)))) else (laws_FnFlights.j1 kj11 l0 t210 t211 t212 t217 true))) else (laws_FnFlights.j1 kj11 l0 t210 t211 t212 t217 true)) else (laws_FnFlights.j1 kj11 l0 t210 t211 t212 t217 true)) else (laws_FnFlights.j1 kj11 l0 t210 t211 t212 t217 true))))) = some r := H
            have A27 := Aside0.mk A270
            clear A270
            replace H := Option.bind_eq_some_iff.mp H
            obtain ⟨⟨t233, t234, t235⟩, A280, H⟩ := H
            replace H : ((impl_HeightAt.f t210 t233).bind fun bt236 => ((impl_HeightAt.f t210 t217).bind fun bt238 => (if t228 = 0 then (if t227 = t212 then (if bt236.2 = 0 then (if bt236.1 > t212 then (laws_FnFlights.j1 kj11 l0 t210 t211 t212 t217 true) else (if bt238.2 = 0 then (if bt238.1 > 0 then (laws_FnFlights.j1 kj11 l0 t210 t211 t212 t217 true) else (laws_FnFlights.j1 kj11 l0 t210 t211 t212 t217 (decide (t217 < 1)))) else (laws_FnFlights.j1 kj11 l0 t210 t211 t212 t217 true))) else (laws_FnFlights.j1 kj11 l0 t210 t211 t212 t217 true)) else (laws_FnFlights.j1 kj11 l0 t210 t211 t212 t217 true)) else (laws_FnFlights.j1 kj11 l0 t210 t211 t212 t217 true)))) = some r := H
            have A28 := Aside0.mk A280
            clear A280
            replace H := Option.bind_eq_some_iff.mp H
            obtain ⟨⟨t236, t237⟩, A290, H⟩ := H
            replace H : ((impl_HeightAt.f t210 t217).bind fun bt238 => (if t228 = 0 then (if t227 = t212 then (if t237 = 0 then (if t236 > t212 then (laws_FnFlights.j1 kj11 l0 t210 t211 t212 t217 true) else (if bt238.2 = 0 then (if bt238.1 > 0 then (laws_FnFlights.j1 kj11 l0 t210 t211 t212 t217 true) else (laws_FnFlights.j1 kj11 l0 t210 t211 t212 t217 (decide (t217 < 1)))) else (laws_FnFlights.j1 kj11 l0 t210 t211 t212 t217 true))) else (laws_FnFlights.j1 kj11 l0 t210 t211 t212 t217 true)) else (laws_FnFlights.j1 kj11 l0 t210 t211 t212 t217 true)) else (laws_FnFlights.j1 kj11 l0 t210 t211 t212 t217 true))) = some r := H
            have A29 := Aside0.mk A290
            clear A290
            replace H := Option.bind_eq_some_iff.mp H
            obtain ⟨⟨t238, t239⟩, A300, H⟩ := H
            replace H : (if t228 = 0 then (if t227 = t212 then (if t237 = 0 then (if t236 > t212 then (laws_FnFlights.j1 kj11 l0 t210 t211 t212 t217 true) else (if t239 = 0 then (if t238 > 0 then (laws_FnFlights.j1 kj11 l0 t210 t211 t212 t217 true) else (laws_FnFlights.j1 kj11 l0 t210 t211 t212 t217 (decide (t217 < 1)))) else (laws_FnFlights.j1 kj11 l0 t210 t211 t212 t217 true))) else (laws_FnFlights.j1 kj11 l0 t210 t211 t212 t217 true)) else (laws_FnFlights.j1 kj11 l0 t210 t211 t212 t217 true)) else (laws_FnFlights.j1 kj11 l0 t210 t211 t212 t217 true)) = some r := H
            have A30 := Aside0.mk A300
            clear A300
            have HC31 := Aside0.mk H
            clear H
            go_upto_region 18 with (first | ((with_reducible refine gate_callee (f := 23) rfl ?_); refine goesL_ (some 116) rfl rfl Try.func23 (by kernel_rfl) rfl #[.int .i64 t210, .int .i64 t211] rfl (by (try simp only [List.map_toArray, List.map_cons, List.map_nil]); first | done | rfl | (simp only [List.length_drop, List.length_take]; rfl) | (simp; done) | (simp; rfl)) ?_; (with_reducible refine (impl_HeightAt.calls t210 t211 t227 t228 _ A26.out).mono ?_); rintro e w' ⟨rfl, ⟨nd, rfl⟩⟩; refine ⟨_, rfl, ?_⟩) | ((with_reducible refine gate_callee (f := 38) rfl ?_); refine goesL_ (some 122) rfl rfl Try.func38 (by kernel_rfl) rfl #[.slice A0 l0.length c0, .int .u64 401] rfl (by (try simp only [List.map_toArray, List.map_cons, List.map_nil]); first | done | rfl | (simp only [List.length_drop, List.length_take]; rfl) | (simp; done) | (simp; rfl)) ?_; (with_reducible refine (laws_roll.calls kj11 _ _ l0 401 t229 t230 t231 w _ ?side1 ?side2 ?side3 A27.out).mono ?_); (case side1 => repeat (first | (with_reducible first | exact HB.out | apply below_alloc | apply pw_below_drewN | apply below_drew1) | exact HB.out)); (case side2 => exact HR0.out); (case side3 => exact HC0.out); rintro e w32 ⟨g232, rfl, hi, hb, hb2⟩; refine ⟨_, rfl, ?_⟩; have n0_ := Aside0.mk (hb); have n1_ := Aside0.mk (hi); clear HB; have HB := n0_; have HI232 := n1_; clear n0_ n1_; (try clear hb); (try clear hb2); (try clear hk); (try clear hi)) | ((with_reducible refine gate_callee (f := 39) rfl ?_); refine goesL_ (some 123) rfl rfl Try.func39 (by kernel_rfl) rfl #[.pointer (some ⟨g232, 0, none⟩), .int .i64 60001] rfl (by (try simp only [List.map_toArray, List.map_cons, List.map_nil]); first | done | rfl | (simp only [List.length_drop, List.length_take]; rfl) | (simp; done) | (simp; rfl)) ?_; (with_reducible refine (laws_dice_below.calls g232 t229 t230 t231 60001 t233 t234 t235 w _ ?side1 ?side2 A28.out).mono ?_); (case side1 => repeat (first | (with_reducible first | exact HI232.out | apply IsS64.alloc | apply IsS64.drewN | apply IsS64.drew | apply IsS64.set_1 | apply IsS64.set_2) | exact HI232.out)); (case side2 => repeat (first | (with_reducible first | exact HB.out | apply below_alloc | apply pw_below_drewN | apply below_drew1 | refine below_set ?_ (IsS64.ge HI232.out)) | exact HB.out)); rintro e w33 ⟨rfl, hi, hb, hk⟩; refine ⟨_, rfl, ?_⟩; have n0_ := Aside0.mk (hb); have n1_ := Aside0.mk (hi); clear HB; clear HI232; have HB := n0_; have HI232 := n1_; clear n0_ n1_; (try clear hb); (try clear hb2); (try clear hk); (try clear hi)) | ((with_reducible refine gate_callee (f := 23) rfl ?_); refine goesL_ (some 124) rfl rfl Try.func23 (by kernel_rfl) rfl #[.int .i64 t210, .int .i64 t233] rfl (by (try simp only [List.map_toArray, List.map_cons, List.map_nil]); first | done | rfl | (simp only [List.length_drop, List.length_take]; rfl) | (simp; done) | (simp; rfl)) ?_; (with_reducible refine (impl_HeightAt.calls t210 t233 t236 t237 _ A29.out).mono ?_); rintro e w' ⟨rfl, ⟨nd, rfl⟩⟩; refine ⟨_, rfl, ?_⟩) | ((with_reducible refine gate_callee (f := 23) rfl ?_); refine goesL_ (some 130) rfl rfl Try.func23 (by kernel_rfl) rfl #[.int .i64 t210, .int .i64 t217] rfl (by (try simp only [List.map_toArray, List.map_cons, List.map_nil]); first | done | rfl | (simp only [List.length_drop, List.length_take]; rfl) | (simp; done) | (simp; rfl)) ?_; (with_reducible refine (impl_HeightAt.calls t210 t217 t238 t239 _ A30.out).mono ?_); rintro e w' ⟨rfl, ⟨nd, rfl⟩⟩; refine ⟨_, rfl, ?_⟩))
            (try simp only [Act.put, List.setIfInBounds_toArray, List.set_cons_zero, List.set_cons_succ])
            go_cut [160] (fun v160 wc => ∃ (kq : Nat) (x160_30 : Bool), v160 = .bool x160_30 ∧ Aside0 (laws_FnFlights.j1 kq l0 t210 t211 t212 t217 x160_30 = some r) ∧ Aside0 (kq ≤ kj11) ∧ Aside0 (Below w.heap.size w wc))
            case first =>
              have H := HC31.out
              clear HC31
              by_cases c34 : t228 = 0
              · rw [if_pos c34] at H
                have c34b0 : (t228 == 0) = true := beq_iff_eq.mpr c34
                have c34b1 : (t228 != 0) = false := bne_eq_false_iff_eq.mpr c34
                clear c34
                (first | rw [c34b0] | (simp only [i64_w, i32_w]; rw [c34b0]) | skip)
                by_cases c35 : t227 = t212
                · rw [if_pos c35] at H
                  have c35b0 : (t227 == t212) = true := beq_iff_eq.mpr c35
                  have c35b1 : (t227 != t212) = false := bne_eq_false_iff_eq.mpr c35
                  clear c35
                  by_cases c36 : t237 = 0
                  · rw [if_pos c36] at H
                    have c36b0 : (t237 == 0) = true := beq_iff_eq.mpr c36
                    have c36b1 : (t237 != 0) = false := bne_eq_false_iff_eq.mpr c36
                    clear c36
                    by_cases c37 : t236 > t212
                    · rw [if_pos c37] at H
                      have c37b0 : decide (t212 < t236) = true := decide_eq_true c37
                      clear c37
                      have H' := Aside0.mk H
                      clear H
                      go_wp2
                      go_meet
                      case rel => exact ⟨_, (true), (by first | rfl | (simp; done) | (simp [*]; done)), H', ⟨by have := HJ11.out; first | omega | exact Nat.le_refl _⟩, ⟨by repeat (first | (with_reducible first | exact HB.out | apply below_alloc | apply pw_below_drewN | apply below_drew1 | refine below_set ?_ (IsS64.ge HI232.out)) | exact HB.out)⟩⟩
                    · rw [if_neg c37] at H
                      have c37b0 : decide (t212 < t236) = false := decide_eq_false c37
                      clear c37
                      by_cases c38 : t239 = 0
                      · rw [if_pos c38] at H
                        have c38b0 : (t239 == 0) = true := beq_iff_eq.mpr c38
                        have c38b1 : (t239 != 0) = false := bne_eq_false_iff_eq.mpr c38
                        clear c38
                        by_cases c39 : t238 > 0
                        · rw [if_pos c39] at H
                          have c39b0 : decide (0 < t238) = true := decide_eq_true c39
                          clear c39
                          have H' := Aside0.mk H
                          clear H
                          go_wp2
                          go_meet
                          case rel => exact ⟨_, (true), (by first | rfl | (simp; done) | (simp [*]; done)), H', ⟨by have := HJ11.out; first | omega | exact Nat.le_refl _⟩, ⟨by repeat (first | (with_reducible first | exact HB.out | apply below_alloc | apply pw_below_drewN | apply below_drew1 | refine below_set ?_ (IsS64.ge HI232.out)) | exact HB.out)⟩⟩
                        · rw [if_neg c39] at H
                          have c39b0 : decide (0 < t238) = false := decide_eq_false c39
                          clear c39
                          have H' := Aside0.mk H
                          clear H
                          go_wp2
                          go_meet
                          case rel => exact ⟨_, (decide (t217 < 1)), (by first | rfl | (simp; done) | (simp [*]; done)), H', ⟨by have := HJ11.out; first | omega | exact Nat.le_refl _⟩, ⟨by repeat (first | (with_reducible first | exact HB.out | apply below_alloc | apply pw_below_drewN | apply below_drew1 | refine below_set ?_ (IsS64.ge HI232.out)) | exact HB.out)⟩⟩
                      · rw [if_neg c38] at H
                        have c38b0 : (t239 == 0) = false := beq_eq_false_iff_ne.mpr c38
                        have c38b1 : (t239 != 0) = true := bne_iff_ne.mpr c38
                        have H' := Aside0.mk H
                        clear H
                        go_wp2
                        go_meet
                        case rel => exact ⟨_, (true), (by first | rfl | (simp; done) | (simp [*]; done)), H', ⟨by have := HJ11.out; first | omega | exact Nat.le_refl _⟩, ⟨by repeat (first | (with_reducible first | exact HB.out | apply below_alloc | apply pw_below_drewN | apply below_drew1 | refine below_set ?_ (IsS64.ge HI232.out)) | exact HB.out)⟩⟩
                  · rw [if_neg c36] at H
                    have c36b0 : (t237 == 0) = false := beq_eq_false_iff_ne.mpr c36
                    have c36b1 : (t237 != 0) = true := bne_iff_ne.mpr c36
                    have H' := Aside0.mk H
                    clear H
                    go_wp2
                    go_meet
                    case rel => exact ⟨_, (true), (by first | rfl | (simp; done) | (simp [*]; done)), H', ⟨by have := HJ11.out; first | omega | exact Nat.le_refl _⟩, ⟨by repeat (first | (with_reducible first | exact HB.out | apply below_alloc | apply pw_below_drewN | apply below_drew1 | refine below_set ?_ (IsS64.ge HI232.out)) | exact HB.out)⟩⟩
                · rw [if_neg c35] at H
                  have c35b0 : (t227 == t212) = false := beq_eq_false_iff_ne.mpr c35
                  have c35b1 : (t227 != t212) = true := bne_iff_ne.mpr c35
                  have H' := Aside0.mk H
                  clear H
                  go_wp2
                  go_meet
                  case rel => exact ⟨_, (true), (by first | rfl | (simp; done) | (simp [*]; done)), H', ⟨by have := HJ11.out; first | omega | exact Nat.le_refl _⟩, ⟨by repeat (first | (with_reducible first | exact HB.out | apply below_alloc | apply pw_below_drewN | apply below_drew1 | refine below_set ?_ (IsS64.ge HI232.out)) | exact HB.out)⟩⟩
              · rw [if_neg c34] at H
                have c34b0 : (t228 == 0) = false := beq_eq_false_iff_ne.mpr c34
                have c34b1 : (t228 != 0) = true := bne_iff_ne.mpr c34
                (first | rw [c34b0] | (simp only [i64_w, i32_w]; rw [c34b0]) | skip)
                have H' := Aside0.mk H
                clear H
                go_wp2
                go_meet
                case rel => exact ⟨_, (true), (by first | rfl | (simp; done) | (simp [*]; done)), H', ⟨by have := HJ11.out; first | omega | exact Nat.le_refl _⟩, ⟨by repeat (first | (with_reducible first | exact HB.out | apply below_alloc | apply pw_below_drewN | apply below_drew1 | refine below_set ?_ (IsS64.ge HI232.out)) | exact HB.out)⟩⟩
            case rest =>
              clear HC31
              try clear c1
              try clear c2
              try clear p2
              try clear c3
              try clear c4
              try clear c14
              try clear c17
              try clear c17b0
              try clear c17b1
              try clear c18
              try clear c18b0
              try clear c18b1
              try clear c19
              try clear c19b0
              try clear c19b1
              try clear c20
              try clear c20b0
              try clear c20b1
              try clear c21
              try clear c21b0
              try clear c21b1
              try clear c22
              try clear c22b0
              try clear c22b1
              try clear c23
              try clear c23b0
              try clear c23b1
              try clear c24
              try clear c25
              try clear c25b0
              try clear c25b1
              try clear c26
              try clear c27
              try clear c30
              try clear c31
              try clear c34
              try clear c34b0
              try clear c34b1
              try clear c35
              try clear c35b0
              try clear c35b1
              try clear c36
              try clear c36b0
              try clear c36b1
              try clear c37
              try clear c37b0
              try clear c38
              try clear c38b0
              try clear c38b1
              try clear c39
              try clear c39b0
              try clear p2
              obtain ⟨kq, x160_30, rfl, HA, HJ30, HB⟩ := hcut
              cases kq with
              | zero => exact absurd HA.out (by simp [laws_FnFlights.j1])
              | succ kj30 =>
                have H := HA.out
                clear HA
                simp only [laws_FnFlights.j1] at H
                by_cases c40 : x160_30 = true
                · subst c40
                  have H1 : (some false) = some r := by rw [if_pos rfl] at H; exact H
                  clear H
                  have H := H1
                  clear H1
                  obtain rfl := Option.some.inj H
                  exact absurd hr_.out (by decide)
                · replace c40 := Bool.eq_false_iff.mpr c40
                  subst c40
                  have H1 : (if t211 > 0 then ((impl_HeightAt.f t210 (wrap64 (t211 - 1))).bind fun bt240 => (if bt240.2 = 0 then (if bt240.1 ≥ t212 then (some false) else (laws_FnFlights.j2 kj30 l0 t210 t217)) else (some false))) else (laws_FnFlights.j2 kj30 l0 t210 t217)) = some r := by rw [if_neg (show ¬ (false = true) by decide)] at H; exact H
                  clear H
                  have H := H1
                  clear H1
                  have HC41 := Aside0.mk H
                  clear H
                  go_upto_if 162 with (fail)
                  go_cut [] (fun wc => ∃ (kq : Nat), Aside0 (laws_FnFlights.j2 kq l0 t210 t217 = some r) ∧ Aside0 (kq ≤ kj30) ∧ Aside0 (Below w.heap.size w wc))
                  case first =>
                    have H := HC41.out
                    clear HC41
                    by_cases c42 : t211 > 0
                    · rw [if_pos c42] at H
                      have c42b0 : decide (0 < t211) = true := decide_eq_true c42
                      clear c42
                      (first | rw [c42b0] | (simp only [i64_w, i32_w]; rw [c42b0]) | skip)
                      replace H := Option.bind_eq_some_iff.mp H
                      obtain ⟨⟨t240, t241⟩, A430, H⟩ := H
                      replace H : (if t241 = 0 then (if t240 ≥ t212 then (some false) else (laws_FnFlights.j2 kj30 l0 t210 t217)) else (some false)) = some r := H
                      have A43 := Aside0.mk A430
                      clear A430
                      by_cases c44 : t241 = 0
                      · rw [if_pos c44] at H
                        have c44b0 : (t241 == 0) = true := beq_iff_eq.mpr c44
                        have c44b1 : (t241 != 0) = false := bne_eq_false_iff_eq.mpr c44
                        clear c44
                        by_cases c45 : t240 ≥ t212
                        · rw [if_pos c45] at H
                          have c45b0 : decide (t212 ≤ t240) = true := decide_eq_true c45
                          clear c45
                          obtain rfl := Option.some.inj H
                          exact absurd hr_.out (by decide)
                        · rw [if_neg c45] at H
                          have c45b0 : decide (t212 ≤ t240) = false := decide_eq_false c45
                          clear c45
                          have H' := Aside0.mk H
                          clear H
                          go_wp2_with (first | ((with_reducible refine gate_callee (f := 23) rfl ?_); refine goesL_ (some 167) rfl rfl Try.func23 (by kernel_rfl) rfl #[.int .i64 t210, .int .i64 (wrap64 (t211 - 1))] rfl (by (try simp only [List.map_toArray, List.map_cons, List.map_nil]); first | done | rfl | (simp only [List.length_drop, List.length_take]; rfl) | (simp; done) | (simp; rfl)) ?_; (with_reducible refine (impl_HeightAt.calls t210 (wrap64 (t211 - 1)) t240 t241 _ A43.out).mono ?_); rintro e w' ⟨rfl, ⟨nd, rfl⟩⟩; refine ⟨_, rfl, ?_⟩))
                          go_meet
                          case rel => exact ⟨_, H', ⟨by have := HJ11.out; have := HJ30.out; first | omega | exact Nat.le_refl _⟩, ⟨by repeat (first | (with_reducible first | exact HB.out | apply below_alloc | apply pw_below_drewN | apply below_drew1) | exact HB.out)⟩⟩
                      · rw [if_neg c44] at H
                        have c44b0 : (t241 == 0) = false := beq_eq_false_iff_ne.mpr c44
                        have c44b1 : (t241 != 0) = true := bne_iff_ne.mpr c44
                        obtain rfl := Option.some.inj H
                        exact absurd hr_.out (by decide)
                    · rw [if_neg c42] at H
                      have c42b0 : decide (0 < t211) = false := decide_eq_false c42
                      clear c42
                      (first | rw [c42b0] | (simp only [i64_w, i32_w]; rw [c42b0]) | skip)
                      have H' := Aside0.mk H
                      clear H
                      go_wp2
                      go_meet
                      case rel => exact ⟨_, H', ⟨by have := HJ11.out; have := HJ30.out; first | omega | exact Nat.le_refl _⟩, ⟨by repeat (first | (with_reducible first | exact HB.out | apply below_alloc | apply pw_below_drewN | apply below_drew1) | exact HB.out)⟩⟩
                  case rest =>
                    clear HC41
                    try clear c1
                    try clear c2
                    try clear p2
                    try clear c3
                    try clear c4
                    try clear p6
                    try clear c14
                    try clear c17
                    try clear c17b0
                    try clear c17b1
                    try clear c18
                    try clear c18b0
                    try clear c18b1
                    try clear c19
                    try clear c19b0
                    try clear c19b1
                    try clear c20
                    try clear c20b0
                    try clear c20b1
                    try clear c21
                    try clear c21b0
                    try clear c21b1
                    try clear c22
                    try clear c22b0
                    try clear c22b1
                    try clear c23
                    try clear c23b0
                    try clear c23b1
                    try clear c24
                    try clear c25
                    try clear c25b0
                    try clear c25b1
                    try clear c26
                    try clear c27
                    try clear c30
                    try clear c31
                    try clear c34
                    try clear c34b0
                    try clear c34b1
                    try clear c35
                    try clear c35b0
                    try clear c35b1
                    try clear c36
                    try clear c36b0
                    try clear c36b1
                    try clear c37
                    try clear c37b0
                    try clear c38
                    try clear c38b0
                    try clear c38b1
                    try clear c39
                    try clear c39b0
                    try clear c40
                    try clear c42
                    try clear c42b0
                    try clear c43
                    try clear c44
                    try clear c44b0
                    try clear c44b1
                    try clear c45
                    try clear c45b0
                    try clear p2
                    obtain ⟨kq, HA, HJ40, HB⟩ := hcut
                    cases kq with
                    | zero => exact absurd HA.out (by simp [laws_FnFlights.j2])
                    | succ kj40 =>
                      have H := HA.out
                      clear HA
                      simp only [laws_FnFlights.j2] at H
                      by_cases c46 : t217 = 1
                      · rw [if_pos c46] at H
                        have c46b0 : (t217 == 1) = true := beq_iff_eq.mpr c46
                        have c46b1 : (t217 != 1) = false := bne_eq_false_iff_eq.mpr c46
                        clear c46
                        obtain rfl := Option.some.inj H
                        simp only [Option.some.injEq, Prod.mk.injEq] at H
                        obtain ⟨rfl⟩ := H
                        go_wp2
                        go_ret
                        exact ⟨by first | rfl | (simp [errW_none, errW_some] <;> rfl) | (simp [*, errW_none, errW_some] <;> rfl), by repeat (first | (with_reducible first | exact HB.out | apply below_alloc | apply pw_below_drewN | apply below_drew1) | exact HB.out)⟩
                      · rw [if_neg c46] at H
                        have c46b0 : (t217 == 1) = false := beq_eq_false_iff_ne.mpr c46
                        have c46b1 : (t217 != 1) = true := bne_iff_ne.mpr c46
                        replace H := Option.bind_eq_some_iff.mp H
                        obtain ⟨⟨t242, t243, t244⟩, A470, H⟩ := H
                        replace H : ((laws_dice_below.f t242 t243 t244 (wrap64 (t217 - 1))).bind fun bt246 => ((impl_HeightAt.f t210 (wrap64 (1 + bt246.1))).bind fun bt249 => (if bt249.2 = 0 then (some (decide (bt249.1 > 0))) else (some false)))) = some r := H
                        have A47 := Aside0.mk A470
                        clear A470
                        replace H := Option.bind_eq_some_iff.mp H
                        obtain ⟨⟨t246, t247, t248⟩, A480, H⟩ := H
                        replace H : ((impl_HeightAt.f t210 (wrap64 (1 + t246))).bind fun bt249 => (if bt249.2 = 0 then (some (decide (bt249.1 > 0))) else (some false))) = some r := H
                        have A48 := Aside0.mk A480
                        clear A480
                        replace H := Option.bind_eq_some_iff.mp H
                        obtain ⟨⟨t249, t250⟩, A490, H⟩ := H
                        replace H : (if t250 = 0 then (some (decide (t249 > 0))) else (some false)) = some r := H
                        have A49 := Aside0.mk A490
                        clear A490
                        by_cases c50 : t250 = 0
                        · rw [if_pos c50] at H
                          have c50b0 : (t250 == 0) = true := beq_iff_eq.mpr c50
                          have c50b1 : (t250 != 0) = false := bne_eq_false_iff_eq.mpr c50
                          clear c50
                          obtain rfl := Option.some.inj H
                          simp only [Option.some.injEq, Prod.mk.injEq] at H
                          obtain ⟨rfl⟩ := H
                          go_wp2_with (first | ((with_reducible refine gate_callee (f := 38) rfl ?_); refine goesL_ (some 182) rfl rfl Try.func38 (by kernel_rfl) rfl #[.slice A0 l0.length c0, .int .u64 402] rfl (by (try simp only [List.map_toArray, List.map_cons, List.map_nil]); first | done | rfl | (simp only [List.length_drop, List.length_take]; rfl) | (simp; done) | (simp; rfl)) ?_; (with_reducible refine (laws_roll.calls kj40 _ _ l0 402 t242 t243 t244 w _ ?side1 ?side2 ?side3 A47.out).mono ?_); (case side1 => repeat (first | (with_reducible first | exact HB.out | apply below_alloc | apply pw_below_drewN | apply below_drew1) | exact HB.out)); (case side2 => exact HR0.out); (case side3 => exact HC0.out); rintro e w51 ⟨g245, rfl, hi, hb, hb2⟩; refine ⟨_, rfl, ?_⟩; have n0_ := Aside0.mk (hb); have n1_ := Aside0.mk (hi); clear HB; have HB := n0_; have HI245 := n1_; clear n0_ n1_; (try clear hb); (try clear hb2); (try clear hk); (try clear hi)) | ((with_reducible refine gate_callee (f := 39) rfl ?_); refine goesL_ (some 185) rfl rfl Try.func39 (by kernel_rfl) rfl #[.pointer (some ⟨g245, 0, none⟩), .int .i64 (wrap64 (t217 - 1))] rfl (by (try simp only [List.map_toArray, List.map_cons, List.map_nil]); first | done | rfl | (simp only [List.length_drop, List.length_take]; rfl) | (simp; done) | (simp; rfl)) ?_; (with_reducible refine (laws_dice_below.calls g245 t242 t243 t244 (wrap64 (t217 - 1)) t246 t247 t248 w _ ?side1 ?side2 A48.out).mono ?_); (case side1 => repeat (first | (with_reducible first | exact HI245.out | apply IsS64.alloc | apply IsS64.drewN | apply IsS64.drew | apply IsS64.set_1 | apply IsS64.set_2) | exact HI245.out)); (case side2 => repeat (first | (with_reducible first | exact HB.out | apply below_alloc | apply pw_below_drewN | apply below_drew1 | refine below_set ?_ (IsS64.ge HI245.out)) | exact HB.out)); rintro e w52 ⟨rfl, hi, hb, hk⟩; refine ⟨_, rfl, ?_⟩; have n0_ := Aside0.mk (hb); have n1_ := Aside0.mk (hi); clear HB; clear HI245; have HB := n0_; have HI245 := n1_; clear n0_ n1_; (try clear hb); (try clear hb2); (try clear hk); (try clear hi)) | ((with_reducible refine gate_callee (f := 23) rfl ?_); refine goesL_ (some 187) rfl rfl Try.func23 (by kernel_rfl) rfl #[.int .i64 t210, .int .i64 (wrap64 (1 + t246))] rfl (by (try simp only [List.map_toArray, List.map_cons, List.map_nil]); first | done | rfl | (simp only [List.length_drop, List.length_take]; rfl) | (simp; done) | (simp; rfl)) ?_; (with_reducible refine (impl_HeightAt.calls t210 (wrap64 (1 + t246)) t249 t250 _ A49.out).mono ?_); rintro e w' ⟨rfl, ⟨nd, rfl⟩⟩; refine ⟨_, rfl, ?_⟩))
                          go_ret
                          exact ⟨by first | rfl | (simp [errW_none, errW_some] <;> rfl) | (simp [*, errW_none, errW_some] <;> rfl), by repeat (first | (with_reducible first | exact HB.out | apply below_alloc | apply pw_below_drewN | apply below_drew1 | refine below_set ?_ (IsS64.ge HI245.out)) | exact HB.out)⟩
                        · rw [if_neg c50] at H
                          have c50b0 : (t250 == 0) = false := beq_eq_false_iff_ne.mpr c50
                          have c50b1 : (t250 != 0) = true := bne_iff_ne.mpr c50
                          obtain rfl := Option.some.inj H
                          exact absurd hr_.out (by decide)
          · rw [if_neg c25] at H
            have c25b0 : (t213 == 0) = false := beq_eq_false_iff_ne.mpr c25
            have c25b1 : (t213 != 0) = true := bne_iff_ne.mpr c25
            obtain rfl := Option.some.inj H
            simp only [Option.some.injEq, Prod.mk.injEq] at H
            obtain ⟨rfl⟩ := H
            go_wp2
            go_ret
            exact ⟨by first | rfl | (simp [errW_none, errW_some] <;> rfl) | (simp [*, errW_none, errW_some] <;> rfl), by repeat (first | (with_reducible first | exact HB.out | apply below_alloc | apply pw_below_drewN | apply below_drew1) | exact HB.out)⟩

/-- THE ONE PURE STATEMENT of laws_FnFlights: yours. -/
def laws_FnFlights.Pure : Prop := ∀ (l0 : List Int), l0.length ≤ maxLen → l0.length * 1 ≤ 140737488351232 → (∀ x ∈ l0, (Lit.int .u8 x).wf = true) → ∃ k, laws_FnFlights.f k l0 = some true
theorem laws_FnFlights.walk (P : laws_FnFlights.Pure) (a0 : Option Addr) (len0 cap0 : Nat) (z0 : List Int) (w : World) (w0 : (a0 = none ∧ len0 = 0 ∧ cap0 = 0 ∧ z0 = []) ∨ ∃ x, a0 = some x ∧ len0 ≤ cap0 ∧ cap0 ≤ maxLen ∧ z0.length = cap0 ∧ (∀ i, i < z0.length → w.cell? (x.add i) = some (.int .u8 (z0.getD i 0))) ∧ ∀ n ∈ z0, (Lit.int .u8 n).wf = true) (y0 : len0 * 1 ≤ 140737488351232) :
    Calls Try.prog 14 #[.slice a0 len0 cap0] w fun e w' => e = .returned (.bool true) ∧ Below w.heap.size w w' := by
  obtain ⟨l0, rfl, hr0, hm0, hw0, hc0⟩ := ReadsInt.ofRowC w0
  obtain ⟨k, h⟩ := P l0 hm0 y0 hw0
  refine (laws_FnFlights.calls k _ _ l0 true w (Kd.C_of_reads (d := (0 : Int)) (h1 := fun _ => rfl) hr0) hc0 h ⟨rfl⟩).mono ?_
  rintro e w' ⟨rfl, hd⟩
  exact ⟨rfl, hd⟩

end Go.Proofs.Ytkedlfedjbgbiaa.QFnFlights
