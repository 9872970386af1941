-- Written by a program of this project's session, after the kit's print (a turned copy of its programs). Lean checks it.
import Derived.Test.YtidibjmckgbpbaaQFnGustsx0
import Derived.Test.YtidibjmckgbpbaaQFnGustsx1
import Derived.Test.YtidibjmckgbpbaaQFnGustsx2
import Derived.Test.YtidibjmckgbpbaaQFnGustsx4
import Derived.Test.YtidibjmckgbpbaaQFnGustsx5
import Derived.Test.YtidibjmckgbpbaaQFnGustsx6
import Derived.Test.YtidibjmckgbpbaaQFnGustsx7
import Derived.Test.YtidibjmckgbpbaaQFnGustsx8
namespace Go.Proofs.Ytidibjmckgbpbaa.QFnGusts
open Go.RowKit Go.Proofs.YtidibjmckgbpbaaW.PrintWords Go.Proofs.YtidibjmckgbpbaaW.PrintLast Go.Proofs.YtidibjmckgbpbaaW.PrintMore
attribute [local go_sem] max2_int min2_int max_two min_two max_three min_three max_four min_four   -- for this text's walks alone
set_option linter.unusedVariables false
set_option linter.unusedSimpArgs false

attribute [local go_sem high] eqA55
/-! ### laws_FnGusts: function 12 -/
mutual
def laws_FnGusts.j0 : Nat → List (S55) → Int → Int → List (S55) → Int → List (S55) → List Int → List Int → Int → Int → Bool → Option (Bool)
 | 0, _, _, _, _, _, _, _, _, _, _, _ => none
 | k + 1, x3, x4, x5, x6, x7, x10, x11, x12, x13, x14, x87 => if x87 = true then (some false) else (if x14 = 0 then (if 0 ≤ x13 then (if x13 < (x11.length : Int) then ((impl_WindAt.f k x10 (rd x11 x13)).bind fun bt403 => (if bt403.2.2 = 0 then (if x13 < (x12.length : Int) then (if (rd x12 x13) ≥ bt403.1 then (laws_FnGusts.j1 k x3 x4 x5 x6 x7 x10 x11 x12 x13 (decide ((rd x12 x13) ≤ bt403.2.1))) else (laws_FnGusts.j1 k x3 x4 x5 x6 x7 x10 x11 x12 x13 false)) else (none)) else (laws_FnGusts.j1 k x3 x4 x5 x6 x7 x10 x11 x12 x13 true))) else (none)) else (none)) else (laws_FnGusts.j2 k x3 x4 x5 x6 x7))
def laws_FnGusts.j2 : Nat → List (S55) → Int → Int → List (S55) → Int → Option (Bool)
 | 0, _, _, _, _, _ => none
 | k + 1, x3, x4, x5, x6, x7 => if x7 = 0 then ((impl_WindAt.f k x6 x4).bind fun bt418 => (laws_FnGusts.l0 k x3 x5 x6 bt418.1 bt418.2.1 bt418.2.2 0 0)) else (some true)
def laws_FnGusts.l0 : Nat → List (S55) → Int → List (S55) → Int → Int → Int → Int → Int → Option (Bool)
 | 0, _, _, _, _, _, _, _, _ => none
 | k + 1, x3, x5, x6, x22, x23, x24, x25, x26 => if x26 < (x6.length : Int) then (if 0 ≤ x26 then (if x26 < (x3.length : Int) then (if (!(((rd_T55 x6 x26).f0) == ((rd_T55 x3 x26).f0)) || (!(((rd_T55 x6 x26).f1) == ((rd_T55 x3 x26).f1)) || (!(((rd_T55 x6 x26).f2) == ((rd_T55 x3 x26).f2))))) = true then (laws_FnGusts.l0 k x3 x5 x6 x22 x23 x24 (wrap64 (x25 + 1)) (wrap64 (x26 + 1))) else (laws_FnGusts.l0 k x3 x5 x6 x22 x23 x24 x25 (wrap64 (x26 + 1)))) else (none)) else (none)) else (if x24 = 0 then (if x22 ≤ x5 then (if x5 ≤ x23 then (if x25 ≤ 1 then ((impl_IsProfile.f k x6).bind fun t423 => (some t423)) else (some false)) else (some false)) else (some false)) else (some false))
def laws_FnGusts.j1 : Nat → List (S55) → Int → Int → List (S55) → Int → List (S55) → List Int → List Int → Int → Bool → Option (Bool)
 | 0, _, _, _, _, _, _, _, _, _, _ => none
 | k + 1, x3, x4, x5, x6, x7, x10, x11, x12, x13, x117 => if x117 = true then (some false) else (if 0 ≤ x13 then (if x13 ≤ (x11.length : Int) then (if x13 ≤ (x12.length : Int) then ((impl_FirstGust.f k x10 (x11.take (x13 : Int).toNat) (x12.take (x13 : Int).toNat)).bind fun bt416 => (if bt416.2 = 4 then (if bt416.1 = 0 then (laws_FnGusts.j2 k x3 x4 x5 x6 x7) else (some false)) else (some false))) else (none)) else (none)) else (none))
end
def laws_FnGusts.f (k : Nat) (l0 : List Int) : Option (Bool) := (laws_big.f l0).bind fun t374 => (if t374 = true then (some true) else ((spec_DrawWidenWind.f k l0).bind fun bt375 => ((impl_WidenWind.f k bt375.1 bt375.2.1 bt375.2.2).bind fun bt380 => ((spec_WidenWind.f k bt375.1 bt375.2.1 bt375.2.2).bind fun bt384 => ((spec_DrawFirstGust.f k l0).bind fun bt388 => ((impl_FirstGust.f k bt388.1 bt388.2.1 bt388.2.2).bind fun bt397 => ((spec_FirstGust.f k bt388.1 bt388.2.1 bt388.2.2).bind fun bt399 => (if bt380.2 = bt384.2 then ((laws_likeLayers.f k bt380.1 bt384.1).bind fun t401 => (if t401 = true then (if bt397.2 = bt399.2 then (laws_FnGusts.j0 k bt375.1 bt375.2.1 bt375.2.2 bt380.1 bt380.2 bt388.1 bt388.2.1 bt388.2.2 bt397.1 bt397.2 (bt397.1 != bt399.1)) else (laws_FnGusts.j0 k bt375.1 bt375.2.1 bt375.2.2 bt380.1 bt380.2 bt388.1 bt388.2.1 bt388.2.2 bt397.1 bt397.2 true)) else (laws_FnGusts.j0 k bt375.1 bt375.2.1 bt375.2.2 bt380.1 bt380.2 bt388.1 bt388.2.1 bt388.2.2 bt397.1 bt397.2 true))) else (laws_FnGusts.j0 k bt375.1 bt375.2.1 bt375.2.2 bt380.1 bt380.2 bt388.1 bt388.2.1 bt388.2.2 bt397.1 bt397.2 true)))))))))
theorem laws_FnGusts.mono_l : ∀ k, (∀ y0 y1 y2 y3 y4 y5 y6 y7 y8 y9 y10, LeO (laws_FnGusts.j0 k y0 y1 y2 y3 y4 y5 y6 y7 y8 y9 y10) (laws_FnGusts.j0 (k + 1) y0 y1 y2 y3 y4 y5 y6 y7 y8 y9 y10)) ∧ (∀ y0 y1 y2 y3 y4, LeO (laws_FnGusts.j2 k y0 y1 y2 y3 y4) (laws_FnGusts.j2 (k + 1) y0 y1 y2 y3 y4)) ∧ (∀ y0 y1 y2 y3 y4 y5 y6 y7, LeO (laws_FnGusts.l0 k y0 y1 y2 y3 y4 y5 y6 y7) (laws_FnGusts.l0 (k + 1) y0 y1 y2 y3 y4 y5 y6 y7)) ∧ (∀ y0 y1 y2 y3 y4 y5 y6 y7 y8 y9, LeO (laws_FnGusts.j1 k y0 y1 y2 y3 y4 y5 y6 y7 y8 y9) (laws_FnGusts.j1 (k + 1) y0 y1 y2 y3 y4 y5 y6 y7 y8 y9))
 | 0 => ⟨fun _ _ _ _ _ _ _ _ _ _ _ r h => by simp [laws_FnGusts.j0] at h, fun _ _ _ _ _ r h => by simp [laws_FnGusts.j2] at h, fun _ _ _ _ _ _ _ _ r h => by simp [laws_FnGusts.l0] at h, fun _ _ _ _ _ _ _ _ _ _ r h => by simp [laws_FnGusts.j1] at h⟩
 | k + 1 => by
  obtain ⟨ih0, ih1, ih2, ih3⟩ := laws_FnGusts.mono_l k
  refine ⟨?_, ?_, ?_, ?_⟩
  ·
   intro y0 y1 y2 y3 y4 y5 y6 y7 y8 y9 y10
   unfold laws_FnGusts.j0
   repeat' first
   | (with_reducible exact ih0 _ _ _ _ _ _ _ _ _ _ _)
   | (with_reducible exact ih1 _ _ _ _ _)
   | (with_reducible exact ih2 _ _ _ _ _ _ _ _)
   | (with_reducible exact ih3 _ _ _ _ _ _ _ _ _ _)
   | (with_reducible exact impl_FirstGust.mono _ _ _ _)
   | (with_reducible exact impl_IsProfile.mono _ _)
   | (with_reducible exact impl_WidenWind.mono _ _ _ _)
   | (with_reducible exact impl_WindAt.mono _ _ _)
   | (with_reducible exact laws_likeLayers.mono _ _ _)
   | (with_reducible exact spec_DrawFirstGust.mono _ _)
   | (with_reducible exact spec_DrawWidenWind.mono _ _)
   | (with_reducible exact spec_FirstGust.mono _ _ _ _)
   | (with_reducible exact spec_WidenWind.mono _ _ _ _)
   | (with_reducible exact LeO.refl _)
   | (with_reducible exact LeO.none _)
   | (with_reducible refine LeO.ite ?_ ?_)
   | (with_reducible refine LeO.bind ?_ (fun _ => ?_))
   | exact ih0 _ _ _ _ _ _ _ _ _ _ _
   | exact ih1 _ _ _ _ _
   | exact ih2 _ _ _ _ _ _ _ _
   | exact ih3 _ _ _ _ _ _ _ _ _ _
   | exact impl_FirstGust.mono _ _ _ _
   | exact impl_IsProfile.mono _ _
   | exact impl_WidenWind.mono _ _ _ _
   | exact impl_WindAt.mono _ _ _
   | exact laws_likeLayers.mono _ _ _
   | exact spec_DrawFirstGust.mono _ _
   | exact spec_DrawWidenWind.mono _ _
   | exact spec_FirstGust.mono _ _ _ _
   | exact spec_WidenWind.mono _ _ _ _
   | exact LeO.none _
   | refine LeO.ite ?_ ?_
   | refine LeO.bind ?_ (fun _ => ?_)
  ·
   intro y0 y1 y2 y3 y4
   unfold laws_FnGusts.j2
   repeat' first
   | (with_reducible exact ih0 _ _ _ _ _ _ _ _ _ _ _)
   | (with_reducible exact ih1 _ _ _ _ _)
   | (with_reducible exact ih2 _ _ _ _ _ _ _ _)
   | (with_reducible exact ih3 _ _ _ _ _ _ _ _ _ _)
   | (with_reducible exact impl_FirstGust.mono _ _ _ _)
   | (with_reducible exact impl_IsProfile.mono _ _)
   | (with_reducible exact impl_WidenWind.mono _ _ _ _)
   | (with_reducible exact impl_WindAt.mono _ _ _)
   | (with_reducible exact laws_likeLayers.mono _ _ _)
   | (with_reducible exact spec_DrawFirstGust.mono _ _)
   | (with_reducible exact spec_DrawWidenWind.mono _ _)
   | (with_reducible exact spec_FirstGust.mono _ _ _ _)
   | (with_reducible exact spec_WidenWind.mono _ _ _ _)
   | (with_reducible exact LeO.refl _)
   | (with_reducible exact LeO.none _)
   | (with_reducible refine LeO.ite ?_ ?_)
   | (with_reducible refine LeO.bind ?_ (fun _ => ?_))
   | exact ih0 _ _ _ _ _ _ _ _ _ _ _
   | exact ih1 _ _ _ _ _
   | exact ih2 _ _ _ _ _ _ _ _
   | exact ih3 _ _ _ _ _ _ _ _ _ _
   | exact impl_FirstGust.mono _ _ _ _
   | exact impl_IsProfile.mono _ _
   | exact impl_WidenWind.mono _ _ _ _
   | exact impl_WindAt.mono _ _ _
   | exact laws_likeLayers.mono _ _ _
   | exact spec_DrawFirstGust.mono _ _
   | exact spec_DrawWidenWind.mono _ _
   | exact spec_FirstGust.mono _ _ _ _
   | exact spec_WidenWind.mono _ _ _ _
   | exact LeO.none _
   | refine LeO.ite ?_ ?_
   | refine LeO.bind ?_ (fun _ => ?_)
  ·
   intro y0 y1 y2 y3 y4 y5 y6 y7
   unfold laws_FnGusts.l0
   repeat' first
   | (with_reducible exact ih0 _ _ _ _ _ _ _ _ _ _ _)
   | (with_reducible exact ih1 _ _ _ _ _)
   | (with_reducible exact ih2 _ _ _ _ _ _ _ _)
   | (with_reducible exact ih3 _ _ _ _ _ _ _ _ _ _)
   | (with_reducible exact impl_FirstGust.mono _ _ _ _)
   | (with_reducible exact impl_IsProfile.mono _ _)
   | (with_reducible exact impl_WidenWind.mono _ _ _ _)
   | (with_reducible exact impl_WindAt.mono _ _ _)
   | (with_reducible exact laws_likeLayers.mono _ _ _)
   | (with_reducible exact spec_DrawFirstGust.mono _ _)
   | (with_reducible exact spec_DrawWidenWind.mono _ _)
   | (with_reducible exact spec_FirstGust.mono _ _ _ _)
   | (with_reducible exact spec_WidenWind.mono _ _ _ _)
   | (with_reducible exact LeO.refl _)
   | (with_reducible exact LeO.none _)
   | (with_reducible refine LeO.ite ?_ ?_)
   | (with_reducible refine LeO.bind ?_ (fun _ => ?_))
   | exact ih0 _ _ _ _ _ _ _ _ _ _ _
   | exact ih1 _ _ _ _ _
   | exact ih2 _ _ _ _ _ _ _ _
   | exact ih3 _ _ _ _ _ _ _ _ _ _
   | exact impl_FirstGust.mono _ _ _ _
   | exact impl_IsProfile.mono _ _
   | exact impl_WidenWind.mono _ _ _ _
   | exact impl_WindAt.mono _ _ _
   | exact laws_likeLayers.mono _ _ _
   | exact spec_DrawFirstGust.mono _ _
   | exact spec_DrawWidenWind.mono _ _
   | exact spec_FirstGust.mono _ _ _ _
   | exact spec_WidenWind.mono _ _ _ _
   | exact LeO.none _
   | refine LeO.ite ?_ ?_
   | refine LeO.bind ?_ (fun _ => ?_)
  ·
   intro y0 y1 y2 y3 y4 y5 y6 y7 y8 y9
   unfold laws_FnGusts.j1
   repeat' first
   | (with_reducible exact ih0 _ _ _ _ _ _ _ _ _ _ _)
   | (with_reducible exact ih1 _ _ _ _ _)
   | (with_reducible exact ih2 _ _ _ _ _ _ _ _)
   | (with_reducible exact ih3 _ _ _ _ _ _ _ _ _ _)
   | (with_reducible exact impl_FirstGust.mono _ _ _ _)
   | (with_reducible exact impl_IsProfile.mono _ _)
   | (with_reducible exact impl_WidenWind.mono _ _ _ _)
   | (with_reducible exact impl_WindAt.mono _ _ _)
   | (with_reducible exact laws_likeLayers.mono _ _ _)
   | (with_reducible exact spec_DrawFirstGust.mono _ _)
   | (with_reducible exact spec_DrawWidenWind.mono _ _)
   | (with_reducible exact spec_FirstGust.mono _ _ _ _)
   | (with_reducible exact spec_WidenWind.mono _ _ _ _)
   | (with_reducible exact LeO.refl _)
   | (with_reducible exact LeO.none _)
   | (with_reducible refine LeO.ite ?_ ?_)
   | (with_reducible refine LeO.bind ?_ (fun _ => ?_))
   | exact ih0 _ _ _ _ _ _ _ _ _ _ _
   | exact ih1 _ _ _ _ _
   | exact ih2 _ _ _ _ _ _ _ _
   | exact ih3 _ _ _ _ _ _ _ _ _ _
   | exact impl_FirstGust.mono _ _ _ _
   | exact impl_IsProfile.mono _ _
   | exact impl_WidenWind.mono _ _ _ _
   | exact impl_WindAt.mono _ _ _
   | exact laws_likeLayers.mono _ _ _
   | exact spec_DrawFirstGust.mono _ _
   | exact spec_DrawWidenWind.mono _ _
   | exact spec_FirstGust.mono _ _ _ _
   | exact spec_WidenWind.mono _ _ _ _
   | exact LeO.none _
   | refine LeO.ite ?_ ?_
   | refine LeO.bind ?_ (fun _ => ?_)
theorem laws_FnGusts.mono : ∀ a0 k, LeO (laws_FnGusts.f k a0) (laws_FnGusts.f (k + 1) a0) := by
 intro a0 k
 obtain ⟨ih0, ih1, ih2, ih3⟩ := laws_FnGusts.mono_l k
 unfold laws_FnGusts.f
 repeat' first
   | (with_reducible exact ih0 _ _ _ _ _ _ _ _ _ _ _)
   | (with_reducible exact ih1 _ _ _ _ _)
   | (with_reducible exact ih2 _ _ _ _ _ _ _ _)
   | (with_reducible exact ih3 _ _ _ _ _ _ _ _ _ _)
   | (with_reducible exact impl_FirstGust.mono _ _ _ _)
   | (with_reducible exact impl_IsProfile.mono _ _)
   | (with_reducible exact impl_WidenWind.mono _ _ _ _)
   | (with_reducible exact impl_WindAt.mono _ _ _)
   | (with_reducible exact laws_likeLayers.mono _ _ _)
   | (with_reducible exact spec_DrawFirstGust.mono _ _)
   | (with_reducible exact spec_DrawWidenWind.mono _ _)
   | (with_reducible exact spec_FirstGust.mono _ _ _ _)
   | (with_reducible exact spec_WidenWind.mono _ _ _ _)
   | (with_reducible exact LeO.refl _)
   | (with_reducible exact LeO.none _)
   | (with_reducible refine LeO.ite ?_ ?_)
   | (with_reducible refine LeO.bind ?_ (fun _ => ?_))
   | exact ih0 _ _ _ _ _ _ _ _ _ _ _
   | exact ih1 _ _ _ _ _
   | exact ih2 _ _ _ _ _ _ _ _
   | exact ih3 _ _ _ _ _ _ _ _ _ _
   | exact impl_FirstGust.mono _ _ _ _
   | exact impl_IsProfile.mono _ _
   | exact impl_WidenWind.mono _ _ _ _
   | exact impl_WindAt.mono _ _ _
   | exact laws_likeLayers.mono _ _ _
   | exact spec_DrawFirstGust.mono _ _
   | exact spec_DrawWidenWind.mono _ _
   | exact spec_FirstGust.mono _ _ _ _
   | exact spec_WidenWind.mono _ _ _ _
   | exact LeO.none _
   | refine LeO.ite ?_ ?_
   | refine LeO.bind ?_ (fun _ => ?_)
def laws_FnGusts.T15 : Bool × List (List Nat × List Nat) := (true, [([], []), ([], []), ([], []), ([1, 2], [1, 2]), ([], []), ([], []), ([4, 5], [4, 5]), ([0, 3, 6], [0, 3, 6]), ([7], [7]), ([8], [8]), ([8], [8]), ([9, 7, 0, 1, 2, 3, 4, 5, 6, 7, 8, 9], [9]), ([10, 11, 0, 1, 2, 3, 4, 5, 6, 7, 8, 9, 10, 11], [10])])
def laws_FnGusts.B15 : List Nat := [0, 0, 0, 6, 0, 0, 48, 127, 255, 511, 511, 1023, 4095]
theorem laws_FnGusts.tab15 : rtab .any (opsOf Try.f12 15) = laws_FnGusts.T15 := by kernel_rfl
theorem laws_FnGusts.bits15 : waitsOk laws_FnGusts.T15.2 laws_FnGusts.B15 = true := by kernel_rfl
def laws_FnGusts.T25 : Bool × List (List Nat × List Nat) := (true, [([], []), ([], []), ([0, 1], [0, 1]), ([2], [2]), ([], []), ([], []), ([4, 5], [4, 5]), ([6], [6]), ([3, 7], [3, 7])])
def laws_FnGusts.B25 : List Nat := [0, 0, 3, 7, 0, 0, 48, 112, 255]
theorem laws_FnGusts.tab25 : rtab .any (opsOf Try.f12 25) = laws_FnGusts.T25 := by kernel_rfl
theorem laws_FnGusts.bits25 : waitsOk laws_FnGusts.T25.2 laws_FnGusts.B25 = true := by kernel_rfl
set_option maxHeartbeats 8000000 in
set_option maxRecDepth 100000 in
theorem laws_FnGusts.calls (k : Nat) (A0 : Option Addr) (c0 : Nat) (l0 : List Int) (r : Bool) (w : World) (hr0 : Kd.C (Kd.int .u8) w A0 l0.length l0) (hc0 : l0.length ≤ c0) (h : laws_FnGusts.f k l0 = some r) (hr_ : Aside0 (r = true)) :
  Calls Try.prog 12 #[.slice A0 l0.length c0] w fun e w' => e = .returned (.bool r) ∧ Below w.heap.size w w' := by
 have hu55 := Try.underlying55
 have HR0 := Aside0.mk hr0
 have HC0 := Aside0.mk hc0
 clear hr0 hc0
 have HB := Aside0.mk (Below.refl w.heap.size w)
 have H : ((laws_big.f l0).bind fun t374 => (if t374 = true then (some true) else ((spec_DrawWidenWind.f k l0).bind fun bt375 => ((impl_WidenWind.f k bt375.1 bt375.2.1 bt375.2.2).bind fun bt380 => ((spec_WidenWind.f k bt375.1 bt375.2.1 bt375.2.2).bind fun bt384 => ((spec_DrawFirstGust.f k l0).bind fun bt388 => ((impl_FirstGust.f k bt388.1 bt388.2.1 bt388.2.2).bind fun bt397 => ((spec_FirstGust.f k bt388.1 bt388.2.1 bt388.2.2).bind fun bt399 => (if bt380.2 = bt384.2 then ((laws_likeLayers.f k bt380.1 bt384.1).bind fun t401 => (if t401 = true then (if bt397.2 = bt399.2 then (laws_FnGusts.j0 k bt375.1 bt375.2.1 bt375.2.2 bt380.1 bt380.2 bt388.1 bt388.2.1 bt388.2.2 bt397.1 bt397.2 (bt397.1 != bt399.1)) else (laws_FnGusts.j0 k bt375.1 bt375.2.1 bt375.2.2 bt380.1 bt380.2 bt388.1 bt388.2.1 bt388.2.2 bt397.1 bt397.2 true)) else (laws_FnGusts.j0 k bt375.1 bt375.2.1 bt375.2.2 bt380.1 bt380.2 bt388.1 bt388.2.1 bt388.2.2 bt397.1 bt397.2 true))) else (laws_FnGusts.j0 k bt375.1 bt375.2.1 bt375.2.2 bt380.1 bt380.2 bt388.1 bt388.2.1 bt388.2.2 bt397.1 bt397.2 true)))))))))) = some r := h
 clear h
 replace H := Option.bind_eq_some_iff.mp H
 obtain ⟨t374, A20, H⟩ := H
 replace H : (if t374 = true then (some true) else ((spec_DrawWidenWind.f k l0).bind fun bt375 => ((impl_WidenWind.f k bt375.1 bt375.2.1 bt375.2.2).bind fun bt380 => ((spec_WidenWind.f k bt375.1 bt375.2.1 bt375.2.2).bind fun bt384 => ((spec_DrawFirstGust.f k l0).bind fun bt388 => ((impl_FirstGust.f k bt388.1 bt388.2.1 bt388.2.2).bind fun bt397 => ((spec_FirstGust.f k bt388.1 bt388.2.1 bt388.2.2).bind fun bt399 => (if bt380.2 = bt384.2 then ((laws_likeLayers.f k bt380.1 bt384.1).bind fun t401 => (if t401 = true then (if bt397.2 = bt399.2 then (laws_FnGusts.j0 k bt375.1 bt375.2.1 bt375.2.2 bt380.1 bt380.2 bt388.1 bt388.2.1 bt388.2.2 bt397.1 bt397.2 (bt397.1 != bt399.1)) else (laws_FnGusts.j0 k bt375.1 bt375.2.1 bt375.2.2 bt380.1 bt380.2 bt388.1 bt388.2.1 bt388.2.2 bt397.1 bt397.2 true)) else (laws_FnGusts.j0 k bt375.1 bt375.2.1 bt375.2.2 bt380.1 bt380.2 bt388.1 bt388.2.1 bt388.2.2 bt397.1 bt397.2 true))) else (laws_FnGusts.j0 k bt375.1 bt375.2.1 bt375.2.2 bt380.1 bt380.2 bt388.1 bt388.2.1 bt388.2.2 bt397.1 bt397.2 true))))))))) = some r := H
 have A2 := Aside0.mk A20
 clear A20
 by_cases c3 : t374 = true
 ·
  subst c3
  have H1 : (some true) = some r := by rw [if_pos rfl] at H; exact H
  clear H
  have H := H1
  clear H1
  obtain rfl := Option.some.inj H
  simp only [Option.some.injEq, Prod.mk.injEq] at H
  obtain ⟨rfl⟩ := H
  go_enter Try.func12, Try.ntmps12
  go_wp2_with (first | ((with_reducible refine gate_callee (f := 38) rfl ?_); refine goesL_ (some 28) rfl rfl Try.func38 (by kernel_rfl) rfl #[.slice A0 l0.length c0] rfl (by (try simp only [List.map_toArray, List.map_cons, List.map_nil]); first | done | rfl | (go_simp; done) | simp) ?_; (with_reducible refine (laws_big.calls _ _ l0 true _ ?side1 ?side2 A2.out).mono ?_); (case side1 => repeat (first | exact HR0.out | (with_reducible first | apply cA | apply cN | apply cD))); (case side2 => exact HC0.out); rintro e w' ⟨rfl, ⟨nd, rfl⟩⟩; refine ⟨_, rfl, ?_⟩))
  go_ret
  exact ⟨by first | rfl | (simp [errW_none, errW_some] <;> rfl) | (simp [*, errW_none, errW_some] <;> rfl), by repeat (first | (with_reducible first | exact HB.out | apply lA | apply lN | apply lD) | exact HB.out)⟩
 ·
  replace c3 := Bool.eq_false_iff.mpr c3
  subst c3
  have H1 : ((spec_DrawWidenWind.f k l0).bind fun bt375 => ((impl_WidenWind.f k bt375.1 bt375.2.1 bt375.2.2).bind fun bt380 => ((spec_WidenWind.f k bt375.1 bt375.2.1 bt375.2.2).bind fun bt384 => ((spec_DrawFirstGust.f k l0).bind fun bt388 => ((impl_FirstGust.f k bt388.1 bt388.2.1 bt388.2.2).bind fun bt397 => ((spec_FirstGust.f k bt388.1 bt388.2.1 bt388.2.2).bind fun bt399 => (if bt380.2 = bt384.2 then ((laws_likeLayers.f k bt380.1 bt384.1).bind fun t401 => (if t401 = true then (if bt397.2 = bt399.2 then (laws_FnGusts.j0 k bt375.1 bt375.2.1 bt375.2.2 bt380.1 bt380.2 bt388.1 bt388.2.1 bt388.2.2 bt397.1 bt397.2 (bt397.1 != bt399.1)) else (laws_FnGusts.j0 k bt375.1 bt375.2.1 bt375.2.2 bt380.1 bt380.2 bt388.1 bt388.2.1 bt388.2.2 bt397.1 bt397.2 true)) else (laws_FnGusts.j0 k bt375.1 bt375.2.1 bt375.2.2 bt380.1 bt380.2 bt388.1 bt388.2.1 bt388.2.2 bt397.1 bt397.2 true))) else (laws_FnGusts.j0 k bt375.1 bt375.2.1 bt375.2.2 bt380.1 bt380.2 bt388.1 bt388.2.1 bt388.2.2 bt397.1 bt397.2 true)))))))) = some r := by rw [if_neg (show ¬ (false = true) by decide)] at H; exact H
  clear H
  have H := H1
  clear H1
  replace H := Option.bind_eq_some_iff.mp H
  obtain ⟨⟨t375, t376, t377⟩, A40, H⟩ := H
  replace H : ((impl_WidenWind.f k t375 t376 t377).bind fun bt380 => ((spec_WidenWind.f k t375 t376 t377).bind fun bt384 => ((spec_DrawFirstGust.f k l0).bind fun bt388 => ((impl_FirstGust.f k bt388.1 bt388.2.1 bt388.2.2).bind fun bt397 => ((spec_FirstGust.f k bt388.1 bt388.2.1 bt388.2.2).bind fun bt399 => (if bt380.2 = bt384.2 then ((laws_likeLayers.f k bt380.1 bt384.1).bind fun t401 => (if t401 = true then (if bt397.2 = bt399.2 then (laws_FnGusts.j0 k t375 t376 t377 bt380.1 bt380.2 bt388.1 bt388.2.1 bt388.2.2 bt397.1 bt397.2 (bt397.1 != bt399.1)) else (laws_FnGusts.j0 k t375 t376 t377 bt380.1 bt380.2 bt388.1 bt388.2.1 bt388.2.2 bt397.1 bt397.2 true)) else (laws_FnGusts.j0 k t375 t376 t377 bt380.1 bt380.2 bt388.1 bt388.2.1 bt388.2.2 bt397.1 bt397.2 true))) else (laws_FnGusts.j0 k t375 t376 t377 bt380.1 bt380.2 bt388.1 bt388.2.1 bt388.2.2 bt397.1 bt397.2 true))))))) = some r := H
  have A4 := Aside0.mk A40
  clear A40
  replace H := Option.bind_eq_some_iff.mp H
  obtain ⟨⟨t380, t381⟩, A50, H⟩ := H
  replace H : ((spec_WidenWind.f k t375 t376 t377).bind fun bt384 => ((spec_DrawFirstGust.f k l0).bind fun bt388 => ((impl_FirstGust.f k bt388.1 bt388.2.1 bt388.2.2).bind fun bt397 => ((spec_FirstGust.f k bt388.1 bt388.2.1 bt388.2.2).bind fun bt399 => (if t381 = bt384.2 then ((laws_likeLayers.f k t380 bt384.1).bind fun t401 => (if t401 = true then (if bt397.2 = bt399.2 then (laws_FnGusts.j0 k t375 t376 t377 t380 t381 bt388.1 bt388.2.1 bt388.2.2 bt397.1 bt397.2 (bt397.1 != bt399.1)) else (laws_FnGusts.j0 k t375 t376 t377 t380 t381 bt388.1 bt388.2.1 bt388.2.2 bt397.1 bt397.2 true)) else (laws_FnGusts.j0 k t375 t376 t377 t380 t381 bt388.1 bt388.2.1 bt388.2.2 bt397.1 bt397.2 true))) else (laws_FnGusts.j0 k t375 t376 t377 t380 t381 bt388.1 bt388.2.1 bt388.2.2 bt397.1 bt397.2 true)))))) = some r := H
  have A5 := Aside0.mk A50
  clear A50
  replace H := Option.bind_eq_some_iff.mp H
  obtain ⟨⟨t384, t385⟩, A60, H⟩ := H
  replace H : ((spec_DrawFirstGust.f k l0).bind fun bt388 => ((impl_FirstGust.f k bt388.1 bt388.2.1 bt388.2.2).bind fun bt397 => ((spec_FirstGust.f k bt388.1 bt388.2.1 bt388.2.2).bind fun bt399 => (if t381 = t385 then ((laws_likeLayers.f k t380 t384).bind fun t401 => (if t401 = true then (if bt397.2 = bt399.2 then (laws_FnGusts.j0 k t375 t376 t377 t380 t381 bt388.1 bt388.2.1 bt388.2.2 bt397.1 bt397.2 (bt397.1 != bt399.1)) else (laws_FnGusts.j0 k t375 t376 t377 t380 t381 bt388.1 bt388.2.1 bt388.2.2 bt397.1 bt397.2 true)) else (laws_FnGusts.j0 k t375 t376 t377 t380 t381 bt388.1 bt388.2.1 bt388.2.2 bt397.1 bt397.2 true))) else (laws_FnGusts.j0 k t375 t376 t377 t380 t381 bt388.1 bt388.2.1 bt388.2.2 bt397.1 bt397.2 true))))) = some r := H
  have A6 := Aside0.mk A60
  clear A60
  replace H := Option.bind_eq_some_iff.mp H
  obtain ⟨⟨t388, t389, t390⟩, A70, H⟩ := H
  replace H : ((impl_FirstGust.f k t388 t389 t390).bind fun bt397 => ((spec_FirstGust.f k t388 t389 t390).bind fun bt399 => (if t381 = t385 then ((laws_likeLayers.f k t380 t384).bind fun t401 => (if t401 = true then (if bt397.2 = bt399.2 then (laws_FnGusts.j0 k t375 t376 t377 t380 t381 t388 t389 t390 bt397.1 bt397.2 (bt397.1 != bt399.1)) else (laws_FnGusts.j0 k t375 t376 t377 t380 t381 t388 t389 t390 bt397.1 bt397.2 true)) else (laws_FnGusts.j0 k t375 t376 t377 t380 t381 t388 t389 t390 bt397.1 bt397.2 true))) else (laws_FnGusts.j0 k t375 t376 t377 t380 t381 t388 t389 t390 bt397.1 bt397.2 true)))) = some r := H
  have A7 := Aside0.mk A70
  clear A70
  replace H := Option.bind_eq_some_iff.mp H
  obtain ⟨⟨t397, t398⟩, A80, H⟩ := H
  replace H : ((spec_FirstGust.f k t388 t389 t390).bind fun bt399 => (if t381 = t385 then ((laws_likeLayers.f k t380 t384).bind fun t401 => (if t401 = true then (if t398 = bt399.2 then (laws_FnGusts.j0 k t375 t376 t377 t380 t381 t388 t389 t390 t397 t398 (t397 != bt399.1)) else (laws_FnGusts.j0 k t375 t376 t377 t380 t381 t388 t389 t390 t397 t398 true)) else (laws_FnGusts.j0 k t375 t376 t377 t380 t381 t388 t389 t390 t397 t398 true))) else (laws_FnGusts.j0 k t375 t376 t377 t380 t381 t388 t389 t390 t397 t398 true))) = some r := H
  have A8 := Aside0.mk A80
  clear A80
  replace H := Option.bind_eq_some_iff.mp H
  obtain ⟨⟨t399, t400⟩, A90, H⟩ := H
  replace H : (if t381 = t385 then ((laws_likeLayers.f k t380 t384).bind fun t401 => (if t401 = true then (if t398 = t400 then (laws_FnGusts.j0 k t375 t376 t377 t380 t381 t388 t389 t390 t397 t398 (t397 != t399)) else (laws_FnGusts.j0 k t375 t376 t377 t380 t381 t388 t389 t390 t397 t398 true)) else (laws_FnGusts.j0 k t375 t376 t377 t380 t381 t388 t389 t390 t397 t398 true))) else (laws_FnGusts.j0 k t375 t376 t377 t380 t381 t388 t389 t390 t397 t398 true)) = some r := H
  have A9 := Aside0.mk A90
  clear A90
  have HC10 := Aside0.mk H
  clear H
  go_enter Try.func12, Try.ntmps12
  go_upto_region 9 with (first | ((with_reducible refine gate_callee (f := 38) rfl ?_); refine goesL_ (some 28) rfl rfl Try.func38 (by kernel_rfl) rfl #[.slice A0 l0.length c0] rfl (by (try simp only [List.map_toArray, List.map_cons, List.map_nil]); first | done | rfl | (go_simp; done) | simp) ?_; (with_reducible refine (laws_big.calls _ _ l0 false _ ?side1 ?side2 A2.out).mono ?_); (case side1 => repeat (first | exact HR0.out | (with_reducible first | apply cA | apply cN | apply cD))); (case side2 => exact HC0.out); rintro e w' ⟨rfl, ⟨nd, rfl⟩⟩; refine ⟨_, rfl, ?_⟩) | ((with_reducible refine gate_callee (f := 43) rfl ?_); refine goesL_ (some 31) rfl rfl Try.func43 (by kernel_rfl) rfl #[.slice A0 l0.length c0] rfl (by (try simp only [List.map_toArray, List.map_cons, List.map_nil]); first | done | rfl | (go_simp; done) | simp) ?_; (with_reducible refine (spec_DrawWidenWind.calls k _ _ l0 t375 t376 t377 _ ?side1 ?side2 A4.out).mono ?_); (case side1 => repeat (first | exact HR0.out | (with_reducible first | apply cA | apply cN | apply cD))); (case side2 => exact HC0.out); rintro e w11 ⟨v378, rfl, ho0, hb⟩; refine ⟨_, rfl, ?_⟩; have n0_ := Aside0.mk (Kd.R_lower ho0 (below_size (by repeat (first | (with_reducible first | exact HB.out | apply lA | apply lN | apply lD) | exact HB.out)))); have n1_ := Aside0.mk (below_step (by repeat (first | (with_reducible first | exact HB.out | apply lA | apply lN | apply lD) | exact HB.out)) hb); clear HB; have HO379 := n0_; have HB := n1_; clear n0_ n1_; (try clear hb); (try clear hb2); (try clear hk); (try clear hi); (try clear ho0); obtain ⟨Ao12, co12, eo12⟩ := Kd.R_slice HO379.out; subst eo12) | ((with_reducible refine gate_callee (f := 37) rfl ?_); refine goesL_ (some 39) rfl rfl Try.func37 (by kernel_rfl) rfl #[.slice Ao12 t375.length co12, .int .i64 t376, .int .i64 t377] rfl (by (try simp only [List.map_toArray, List.map_cons, List.map_nil]); first | done | rfl | (go_simp; done) | simp) ?_; (with_reducible refine (impl_WidenWind.calls k _ _ t375 t376 t377 t380 t381 _ ?side1 ?side2 A5.out).mono ?_); (case side1 => repeat (first | exact (Kd.R_reads' HO379.out).2.2 | (with_reducible first | apply cA | apply cN | apply cD))); (case side2 => exact (Kd.R_reads' HO379.out).2.1); rintro e w13 ⟨v382, rfl, ho0, hb⟩; refine ⟨_, rfl, ?_⟩; have n0_ := Aside0.mk (Kd.R_elder' (by (with_reducible repeat (first | apply rA | apply rN | apply rD)); exact HO379.out) (Kd.R_base ho0) hb); have n1_ := Aside0.mk (Kd.R_lower (Kd.R_new' ho0 (Kd.R_lt (by (with_reducible repeat (first | apply rA | apply rN | apply rD)); exact HO379.out))) (below_size (by repeat (first | (with_reducible first | exact HB.out | apply lA | apply lN | apply lD) | exact HB.out)))); have n2_ := Aside0.mk (below_step (by repeat (first | (with_reducible first | exact HB.out | apply lA | apply lN | apply lD) | exact HB.out)) hb); clear HO379; clear HB; have HO379 := n0_; have HO383 := n1_; have HB := n2_; clear n0_ n1_ n2_; (try clear hb); (try clear hb2); (try clear hk); (try clear hi); (try clear ho0)) | ((with_reducible refine gate_callee (f := 36) rfl ?_); refine goesL_ (some 46) rfl rfl Try.func36 (by kernel_rfl) rfl #[.slice Ao12 t375.length co12, .int .i64 t376, .int .i64 t377] rfl (by (try simp only [List.map_toArray, List.map_cons, List.map_nil]); first | done | rfl | (go_simp; done) | simp) ?_; (with_reducible refine (spec_WidenWind.calls k _ _ t375 t376 t377 t384 t385 _ ?side1 ?side2 A6.out).mono ?_); (case side1 => repeat (first | exact (Kd.R_reads' HO379.out).2.2 | (with_reducible first | apply cA | apply cN | apply cD))); (case side2 => exact (Kd.R_reads' HO379.out).2.1); rintro e w14 ⟨v386, rfl, ho0, hb⟩; refine ⟨_, rfl, ?_⟩; have n0_ := Aside0.mk (Kd.R_elder' (by (with_reducible repeat (first | apply rA | apply rN | apply rD)); exact HO379.out) (Kd.R_base ho0) hb); have n1_ := Aside0.mk (Kd.R_elder' (by (with_reducible repeat (first | apply rA | apply rN | apply rD)); exact HO383.out) (Kd.R_base ho0) hb); have n2_ := Aside0.mk (Kd.R_lower (Kd.R_new' (Kd.R_new' ho0 (Kd.R_lt (by (with_reducible repeat (first | apply rA | apply rN | apply rD)); exact HO379.out))) (Kd.R_lt (by (with_reducible repeat (first | apply rA | apply rN | apply rD)); exact HO383.out))) (below_size (by repeat (first | (with_reducible first | exact HB.out | apply lA | apply lN | apply lD) | exact HB.out)))); have n3_ := Aside0.mk (below_step (by repeat (first | (with_reducible first | exact HB.out | apply lA | apply lN | apply lD) | exact HB.out)) hb); clear HO379; clear HO383; clear HB; have HO379 := n0_; have HO383 := n1_; have HO387 := n2_; have HB := n3_; clear n0_ n1_ n2_ n3_; (try clear hb); (try clear hb2); (try clear hk); (try clear hi); (try clear ho0)) | ((with_reducible refine gate_callee (f := 44) rfl ?_); refine goesL_ (some 51) rfl rfl Try.func44 (by kernel_rfl) rfl #[.slice A0 l0.length c0] rfl (by (try simp only [List.map_toArray, List.map_cons, List.map_nil]); first | done | rfl | (go_simp; done) | simp) ?_; (with_reducible refine (spec_DrawFirstGust.calls k _ _ l0 t388 t389 t390 _ ?side1 ?side2 A7.out).mono ?_); (case side1 => repeat (first | exact (Kd.C_below HR0.out HB.out) | (with_reducible first | apply cA | apply cN | apply cD))); (case side2 => exact HC0.out); rintro e w15 ⟨v391, v393, v395, rfl, ho0, ho1, ho2, hb⟩; refine ⟨_, rfl, ?_⟩; have n0_ := Aside0.mk (Kd.R_elder' (by (with_reducible repeat (first | apply rA | apply rN | apply rD)); exact HO379.out) (Kd.R_base ho0) hb); have n1_ := Aside0.mk (Kd.R_elder' (by (with_reducible repeat (first | apply rA | apply rN | apply rD)); exact HO383.out) (Kd.R_base ho0) hb); have n2_ := Aside0.mk (Kd.R_elder' (by (with_reducible repeat (first | apply rA | apply rN | apply rD)); exact HO387.out) (Kd.R_base ho0) hb); have n3_ := Aside0.mk (Kd.R_lower (Kd.R_new' (Kd.R_new' (Kd.R_new' ho0 (Kd.R_lt (by (with_reducible repeat (first | apply rA | apply rN | apply rD)); exact HO379.out))) (Kd.R_lt (by (with_reducible repeat (first | apply rA | apply rN | apply rD)); exact HO383.out))) (Kd.R_lt (by (with_reducible repeat (first | apply rA | apply rN | apply rD)); exact HO387.out))) (below_size (by repeat (first | (with_reducible first | exact HB.out | apply lA | apply lN | apply lD) | exact HB.out)))); have n4_ := Aside0.mk (Kd.R_lower ho1 (below_size (by repeat (first | (with_reducible first | exact HB.out | apply lA | apply lN | apply lD) | exact HB.out)))); have n5_ := Aside0.mk (Kd.R_lower ho2 (below_size (by repeat (first | (with_reducible first | exact HB.out | apply lA | apply lN | apply lD) | exact HB.out)))); have n6_ := Aside0.mk (below_step (by repeat (first | (with_reducible first | exact HB.out | apply lA | apply lN | apply lD) | exact HB.out)) hb); clear HO379; clear HO383; clear HO387; clear HB; have HO379 := n0_; have HO383 := n1_; have HO387 := n2_; have HO392 := n3_; have HO394 := n4_; have HO396 := n5_; have HB := n6_; clear n0_ n1_ n2_ n3_ n4_ n5_ n6_; (try clear hb); (try clear hb2); (try clear hk); (try clear hi); (try clear ho0); (try clear ho1); (try clear ho2); obtain ⟨Ao16, co16, eo16⟩ := Kd.R_slice HO392.out; subst eo16; obtain ⟨Ao17, co17, eo17⟩ := Kd.R_slice HO394.out; subst eo17; obtain ⟨Ao18, co18, eo18⟩ := Kd.R_slice HO396.out; subst eo18) | ((with_reducible refine gate_callee (f := 34) rfl ?_); refine goesL_ (some 59) rfl rfl Try.func34 (by kernel_rfl) rfl #[.slice Ao16 t388.length co16, .slice Ao17 t389.length co17, .slice Ao18 t390.length co18] rfl (by (try simp only [List.map_toArray, List.map_cons, List.map_nil]); first | done | rfl | (go_simp; done) | simp) ?_; (with_reducible refine (impl_FirstGust.calls k _ _ t388 _ _ t389 _ _ t390 t397 t398 _ ?side1 ?side2 ?side3 ?side4 ?side5 ?side6 A8.out).mono ?_); (case side1 => repeat (first | exact (Kd.R_reads' HO392.out).2.2 | (with_reducible first | apply cA | apply cN | apply cD))); (case side2 => exact (Kd.R_reads' HO392.out).2.1); (case side3 => repeat (first | exact (Kd.R_reads' HO394.out).2.2 | (with_reducible first | apply cA | apply cN | apply cD))); (case side4 => exact (Kd.R_reads' HO394.out).2.1); (case side5 => repeat (first | exact (Kd.R_reads' HO396.out).2.2 | (with_reducible first | apply cA | apply cN | apply cD))); (case side6 => exact (Kd.R_reads' HO396.out).2.1); rintro e w19 ⟨rfl, hb⟩; refine ⟨_, rfl, ?_⟩; have n0_ := Aside0.mk (Kd.R_below (by (with_reducible repeat (first | apply rA | apply rN | apply rD)); exact HO379.out) hb); have n1_ := Aside0.mk (Kd.R_below (by (with_reducible repeat (first | apply rA | apply rN | apply rD)); exact HO383.out) hb); have n2_ := Aside0.mk (Kd.R_below (by (with_reducible repeat (first | apply rA | apply rN | apply rD)); exact HO387.out) hb); have n3_ := Aside0.mk (Kd.R_below (by (with_reducible repeat (first | apply rA | apply rN | apply rD)); exact HO392.out) hb); have n4_ := Aside0.mk (Kd.R_below (by (with_reducible repeat (first | apply rA | apply rN | apply rD)); exact HO394.out) hb); have n5_ := Aside0.mk (Kd.R_below (by (with_reducible repeat (first | apply rA | apply rN | apply rD)); exact HO396.out) hb); have n6_ := Aside0.mk (below_step (by repeat (first | (with_reducible first | exact HB.out | apply lA | apply lN | apply lD) | exact HB.out)) hb); clear HO379; clear HO383; clear HO387; clear HO392; clear HO394; clear HO396; clear HB; have HO379 := n0_; have HO383 := n1_; have HO387 := n2_; have HO392 := n3_; have HO394 := n4_; have HO396 := n5_; have HB := n6_; clear n0_ n1_ n2_ n3_ n4_ n5_ n6_; (try clear hb); (try clear hb2); (try clear hk); (try clear hi)) | ((with_reducible refine gate_callee (f := 32) rfl ?_); refine goesL_ (some 66) rfl rfl Try.func32 (by kernel_rfl) rfl #[.slice Ao16 t388.length co16, .slice Ao17 t389.length co17, .slice Ao18 t390.length co18] rfl (by (try simp only [List.map_toArray, List.map_cons, List.map_nil]); first | done | rfl | (go_simp; done) | simp) ?_; (with_reducible refine (spec_FirstGust.calls k _ _ t388 _ _ t389 _ _ t390 t399 t400 _ ?side1 ?side2 ?side3 ?side4 ?side5 ?side6 A9.out).mono ?_); (case side1 => repeat (first | exact (Kd.R_reads' HO392.out).2.2 | (with_reducible first | apply cA | apply cN | apply cD))); (case side2 => exact (Kd.R_reads' HO392.out).2.1); (case side3 => repeat (first | exact (Kd.R_reads' HO394.out).2.2 | (with_reducible first | apply cA | apply cN | apply cD))); (case side4 => exact (Kd.R_reads' HO394.out).2.1); (case side5 => repeat (first | exact (Kd.R_reads' HO396.out).2.2 | (with_reducible first | apply cA | apply cN | apply cD))); (case side6 => exact (Kd.R_reads' HO396.out).2.1); rintro e w20 ⟨rfl, hb⟩; refine ⟨_, rfl, ?_⟩; have n0_ := Aside0.mk (Kd.R_below (by (with_reducible repeat (first | apply rA | apply rN | apply rD)); exact HO379.out) hb); have n1_ := Aside0.mk (Kd.R_below (by (with_reducible repeat (first | apply rA | apply rN | apply rD)); exact HO383.out) hb); have n2_ := Aside0.mk (Kd.R_below (by (with_reducible repeat (first | apply rA | apply rN | apply rD)); exact HO387.out) hb); have n3_ := Aside0.mk (Kd.R_below (by (with_reducible repeat (first | apply rA | apply rN | apply rD)); exact HO392.out) hb); have n4_ := Aside0.mk (Kd.R_below (by (with_reducible repeat (first | apply rA | apply rN | apply rD)); exact HO394.out) hb); have n5_ := Aside0.mk (Kd.R_below (by (with_reducible repeat (first | apply rA | apply rN | apply rD)); exact HO396.out) hb); have n6_ := Aside0.mk (below_step (by repeat (first | (with_reducible first | exact HB.out | apply lA | apply lN | apply lD) | exact HB.out)) hb); clear HO379; clear HO383; clear HO387; clear HO392; clear HO394; clear HO396; clear HB; have HO379 := n0_; have HO383 := n1_; have HO387 := n2_; have HO392 := n3_; have HO394 := n4_; have HO396 := n5_; have HB := n6_; clear n0_ n1_ n2_ n3_ n4_ n5_ n6_; (try clear hb); (try clear hb2); (try clear hk); (try clear hi)))
  (try simp only [Act.put, sT, s0, sS])
  go_cut [87] (fun v87 wc => ∃ (kq : Nat) (x87_9 : Bool), v87 = .bool x87_9 ∧ Aside0 (laws_FnGusts.j0 kq t375 t376 t377 t380 t381 t388 t389 t390 t397 t398 x87_9 = some r) ∧ Aside0 (kq ≤ k) ∧ Aside0 (Kd.R k55 55 wc w.heap.size (fun k_ => some k_ ≠ (v382 : Value).ownBlock ∧ some k_ ≠ ((.slice Ao16 t388.length co16) : Value).ownBlock) (.slice Ao12 t375.length co12) t375) ∧ Aside0 (Kd.R k55 55 wc w.heap.size (fun k_ => some k_ ≠ ((.slice Ao12 t375.length co12) : Value).ownBlock ∧ some k_ ≠ ((.slice Ao16 t388.length co16) : Value).ownBlock) v382 t380) ∧ Aside0 (Kd.R k55 55 wc w.heap.size (fun k_ => some k_ ≠ ((.slice Ao12 t375.length co12) : Value).ownBlock ∧ some k_ ≠ (v382 : Value).ownBlock) (.slice Ao16 t388.length co16) t388) ∧ Aside0 (Kd.R (Kd.int .i64) 2 wc w.heap.size (fun k_ => some k_ ≠ ((.slice Ao18 t390.length co18) : Value).ownBlock) (.slice Ao17 t389.length co17) t389) ∧ Aside0 (Kd.R (Kd.int .i64) 2 wc w.heap.size (fun k_ => some k_ ≠ ((.slice Ao17 t389.length co17) : Value).ownBlock) (.slice Ao18 t390.length co18) t390) ∧ Aside0 (Below w.heap.size w wc))
  case first =>
   have H := HC10.out
   clear HC10
   by_cases c21 : t381 = t385
   ·
    rw [if_pos c21] at H
    have c21b0 : (t381 == t385) = true := beq_iff_eq.mpr c21
    have c21b1 : (t381 != t385) = false := bne_eq_false_iff_eq.mpr c21
    clear c21
    (first | rw [c21b0] | (simp only [i64_w, i32_w]; rw [c21b0]) | skip)
    replace H := Option.bind_eq_some_iff.mp H
    obtain ⟨t401, A220, H⟩ := H
    replace H : (if t401 = true then (if t398 = t400 then (laws_FnGusts.j0 k t375 t376 t377 t380 t381 t388 t389 t390 t397 t398 (t397 != t399)) else (laws_FnGusts.j0 k t375 t376 t377 t380 t381 t388 t389 t390 t397 t398 true)) else (laws_FnGusts.j0 k t375 t376 t377 t380 t381 t388 t389 t390 t397 t398 true)) = some r := H
    have A22 := Aside0.mk A220
    clear A220
    by_cases c23 : t401 = true
    ·
     subst c23
     have H1 : (if t398 = t400 then (laws_FnGusts.j0 k t375 t376 t377 t380 t381 t388 t389 t390 t397 t398 (t397 != t399)) else (laws_FnGusts.j0 k t375 t376 t377 t380 t381 t388 t389 t390 t397 t398 true)) = some r := by rw [if_pos rfl] at H; exact H
     clear H
     have H := H1
     clear H1
     by_cases c24 : t398 = t400
     ·
      rw [if_pos c24] at H
      have c24b0 : (t398 == t400) = true := beq_iff_eq.mpr c24
      have c24b1 : (t398 != t400) = false := bne_eq_false_iff_eq.mpr c24
      clear c24
      have H' := Aside0.mk H
      clear H
      obtain ⟨Ao25, co25, eo25⟩ := Kd.R_slice HO383.out
      subst eo25
      obtain ⟨Ao26, co26, eo26⟩ := Kd.R_slice HO387.out
      subst eo26
      go_wp2_with (first | (go_at_call 40; (with_reducible refine (laws_likeLayers.calls k _ _ t380 _ _ t384 true _ ?side1 ?side2 ?side3 ?side4 A22.out).mono ?_); (case side1 => repeat (first | exact (Kd.R_reads' HO383.out).2.2 | (with_reducible first | apply cA | apply cN | apply cD))); (case side2 => exact (Kd.R_reads' HO383.out).2.1); (case side3 => repeat (first | exact (Kd.R_reads' HO387.out).2.2 | (with_reducible first | apply cA | apply cN | apply cD))); (case side4 => exact (Kd.R_reads' HO387.out).2.1); rintro e w' ⟨rfl, ⟨nd, rfl⟩⟩))
      go_meet
      case rel => exact ⟨_, ((t397 != t399)), (by first | rfl | (simp; done) | (simp [*]; done)), H', ⟨by first | omega | exact Nat.le_refl _⟩, ⟨by (with_reducible repeat (first | apply rA | apply rN | apply rD)); exact Kd.R_mono HO379.out (fun _ hk => ⟨hk.1.1.2, hk.2⟩)⟩, ⟨by (with_reducible repeat (first | apply rA | apply rN | apply rD)); exact Kd.R_mono HO383.out (fun _ hk => ⟨hk.1.1.2, hk.2⟩)⟩, ⟨by (with_reducible repeat (first | apply rA | apply rN | apply rD)); exact Kd.R_mono HO392.out (fun _ hk => ⟨hk.1.1.2, hk.1.2⟩)⟩, ⟨by (with_reducible repeat (first | apply rA | apply rN | apply rD)); exact HO394.out⟩, ⟨by (with_reducible repeat (first | apply rA | apply rN | apply rD)); exact HO396.out⟩, ⟨by repeat (first | (with_reducible first | exact HB.out | apply lA | apply lN | apply lD) | exact HB.out)⟩⟩
     ·
      rw [if_neg c24] at H
      have c24b0 : (t398 == t400) = false := beq_eq_false_iff_ne.mpr c24
      have c24b1 : (t398 != t400) = true := bne_iff_ne.mpr c24
      have H' := Aside0.mk H
      clear H
      obtain ⟨Ao27, co27, eo27⟩ := Kd.R_slice HO383.out
      subst eo27
      obtain ⟨Ao28, co28, eo28⟩ := Kd.R_slice HO387.out
      subst eo28
      go_wp2_with (first | (go_at_call 40; (with_reducible refine (laws_likeLayers.calls k _ _ t380 _ _ t384 true _ ?side1 ?side2 ?side3 ?side4 A22.out).mono ?_); (case side1 => repeat (first | exact (Kd.R_reads' HO383.out).2.2 | (with_reducible first | apply cA | apply cN | apply cD))); (case side2 => exact (Kd.R_reads' HO383.out).2.1); (case side3 => repeat (first | exact (Kd.R_reads' HO387.out).2.2 | (with_reducible first | apply cA | apply cN | apply cD))); (case side4 => exact (Kd.R_reads' HO387.out).2.1); rintro e w' ⟨rfl, ⟨nd, rfl⟩⟩))
      go_meet
      case rel => exact ⟨_, (true), (by first | rfl | (simp; done) | (simp [*]; done)), H', ⟨by first | omega | exact Nat.le_refl _⟩, ⟨by (with_reducible repeat (first | apply rA | apply rN | apply rD)); exact Kd.R_mono HO379.out (fun _ hk => ⟨hk.1.1.2, hk.2⟩)⟩, ⟨by (with_reducible repeat (first | apply rA | apply rN | apply rD)); exact Kd.R_mono HO383.out (fun _ hk => ⟨hk.1.1.2, hk.2⟩)⟩, ⟨by (with_reducible repeat (first | apply rA | apply rN | apply rD)); exact Kd.R_mono HO392.out (fun _ hk => ⟨hk.1.1.2, hk.1.2⟩)⟩, ⟨by (with_reducible repeat (first | apply rA | apply rN | apply rD)); exact HO394.out⟩, ⟨by (with_reducible repeat (first | apply rA | apply rN | apply rD)); exact HO396.out⟩, ⟨by repeat (first | (with_reducible first | exact HB.out | apply lA | apply lN | apply lD) | exact HB.out)⟩⟩
    ·
     replace c23 := Bool.eq_false_iff.mpr c23
     subst c23
     have H1 : (laws_FnGusts.j0 k t375 t376 t377 t380 t381 t388 t389 t390 t397 t398 true) = some r := by rw [if_neg (show ¬ (false = true) by decide)] at H; exact H
     clear H
     have H := H1
     clear H1
     have H' := Aside0.mk H
     clear H
     obtain ⟨Ao29, co29, eo29⟩ := Kd.R_slice HO383.out
     subst eo29
     obtain ⟨Ao30, co30, eo30⟩ := Kd.R_slice HO387.out
     subst eo30
     go_wp2_with (first | (go_at_call 40; (with_reducible refine (laws_likeLayers.calls k _ _ t380 _ _ t384 false _ ?side1 ?side2 ?side3 ?side4 A22.out).mono ?_); (case side1 => repeat (first | exact (Kd.R_reads' HO383.out).2.2 | (with_reducible first | apply cA | apply cN | apply cD))); (case side2 => exact (Kd.R_reads' HO383.out).2.1); (case side3 => repeat (first | exact (Kd.R_reads' HO387.out).2.2 | (with_reducible first | apply cA | apply cN | apply cD))); (case side4 => exact (Kd.R_reads' HO387.out).2.1); rintro e w' ⟨rfl, ⟨nd, rfl⟩⟩))
     go_meet
     case rel => exact ⟨_, (true), (by first | rfl | (simp; done) | (simp [*]; done)), H', ⟨by first | omega | exact Nat.le_refl _⟩, ⟨by (with_reducible repeat (first | apply rA | apply rN | apply rD)); exact Kd.R_mono HO379.out (fun _ hk => ⟨hk.1.1.2, hk.2⟩)⟩, ⟨by (with_reducible repeat (first | apply rA | apply rN | apply rD)); exact Kd.R_mono HO383.out (fun _ hk => ⟨hk.1.1.2, hk.2⟩)⟩, ⟨by (with_reducible repeat (first | apply rA | apply rN | apply rD)); exact Kd.R_mono HO392.out (fun _ hk => ⟨hk.1.1.2, hk.1.2⟩)⟩, ⟨by (with_reducible repeat (first | apply rA | apply rN | apply rD)); exact HO394.out⟩, ⟨by (with_reducible repeat (first | apply rA | apply rN | apply rD)); exact HO396.out⟩, ⟨by repeat (first | (with_reducible first | exact HB.out | apply lA | apply lN | apply lD) | exact HB.out)⟩⟩
   ·
    rw [if_neg c21] at H
    have c21b0 : (t381 == t385) = false := beq_eq_false_iff_ne.mpr c21
    have c21b1 : (t381 != t385) = true := bne_iff_ne.mpr c21
    (first | rw [c21b0] | (simp only [i64_w, i32_w]; rw [c21b0]) | skip)
    have H' := Aside0.mk H
    clear H
    go_wp2
    go_meet
    case rel => exact ⟨_, (true), (by first | rfl | (simp; done) | (simp [*]; done)), H', ⟨by first | omega | exact Nat.le_refl _⟩, ⟨by (with_reducible repeat (first | apply rA | apply rN | apply rD)); exact Kd.R_mono HO379.out (fun _ hk => ⟨hk.1.1.2, hk.2⟩)⟩, ⟨by (with_reducible repeat (first | apply rA | apply rN | apply rD)); exact Kd.R_mono HO383.out (fun _ hk => ⟨hk.1.1.2, hk.2⟩)⟩, ⟨by (with_reducible repeat (first | apply rA | apply rN | apply rD)); exact Kd.R_mono HO392.out (fun _ hk => ⟨hk.1.1.2, hk.1.2⟩)⟩, ⟨by (with_reducible repeat (first | apply rA | apply rN | apply rD)); exact HO394.out⟩, ⟨by (with_reducible repeat (first | apply rA | apply rN | apply rD)); exact HO396.out⟩, ⟨by repeat (first | (with_reducible first | exact HB.out | apply lA | apply lN | apply lD) | exact HB.out)⟩⟩
  case rest =>
   clear HC10
   try clear c1
   try clear c2
   try clear p2
   try clear c3
   try clear c4
   try clear c12
   try clear c21
   try clear c21b0
   try clear c21b1
   try clear c23
   try clear c24
   try clear c24b0
   try clear c24b1
   obtain ⟨kq, x87_9, rfl, HA, HJ9, HO_3, HO_6, HO_10, HO_11, HO_12, HB⟩ := hcut
   cases kq with
   | zero => exact absurd HA.out (by simp [laws_FnGusts.j0])
   | succ kj9 =>
    have H := HA.out
    clear HA
    simp only [laws_FnGusts.j0] at H
    by_cases c31 : x87_9 = true
    ·
     subst c31
     have H1 : (some false) = some r := by rw [if_pos rfl] at H; exact H
     clear H
     have H := H1
     clear H1
     obtain rfl := Option.some.inj H
     exact absurd hr_.out (by decide)
    ·
     replace c31 := Bool.eq_false_iff.mpr c31
     subst c31
     have H1 : (if t398 = 0 then (if 0 ≤ t397 then (if t397 < (t389.length : Int) then ((impl_WindAt.f kj9 t388 (rd t389 t397)).bind fun bt403 => (if bt403.2.2 = 0 then (if t397 < (t390.length : Int) then (if (rd t390 t397) ≥ bt403.1 then (laws_FnGusts.j1 kj9 t375 t376 t377 t380 t381 t388 t389 t390 t397 (decide ((rd t390 t397) ≤ bt403.2.1))) else (laws_FnGusts.j1 kj9 t375 t376 t377 t380 t381 t388 t389 t390 t397 false)) else (none)) else (laws_FnGusts.j1 kj9 t375 t376 t377 t380 t381 t388 t389 t390 t397 true))) else (none)) else (none)) else (laws_FnGusts.j2 kj9 t375 t376 t377 t380 t381)) = some r := by rw [if_neg (show ¬ (false = true) by decide)] at H; exact H
     clear H
     have H := H1
     clear H1
     have HC32 := Aside0.mk H
     clear H
     go_upto_if 89 with (fail)
     go_cut [] (fun wc => ∃ (kq : Nat), Aside0 (laws_FnGusts.j2 kq t375 t376 t377 t380 t381 = some r) ∧ Aside0 (kq ≤ kj9) ∧ Aside0 (Kd.R k55 55 wc w.heap.size (fun k_ => some k_ ≠ (v382 : Value).ownBlock) (.slice Ao12 t375.length co12) t375) ∧ Aside0 (Kd.R k55 55 wc w.heap.size (fun k_ => some k_ ≠ ((.slice Ao12 t375.length co12) : Value).ownBlock) v382 t380) ∧ Aside0 (Below w.heap.size w wc))
     case first =>
      have H := HC32.out
      clear HC32
      by_cases c33 : t398 = 0
      ·
       rw [if_pos c33] at H
       have c33b0 : (t398 == 0) = true := beq_iff_eq.mpr c33
       have c33b1 : (t398 != 0) = false := bne_eq_false_iff_eq.mpr c33
       clear c33
       (first | rw [c33b0] | (simp only [i64_w, i32_w]; rw [c33b0]) | skip)
       by_cases c34 : 0 ≤ t397
       ·
        rw [if_pos c34] at H
        have c34b0 : decide (0 ≤ t397) = true := decide_eq_true c34
        clear c34
        by_cases c35 : t397 < (t389.length : Int)
        ·
         rw [if_pos c35] at H
         have c35b0 : decide (t397 < (t389.length : Int)) = true := decide_eq_true c35
         clear c35
         replace H := Option.bind_eq_some_iff.mp H
         obtain ⟨⟨t403, t404, t405⟩, A360, H⟩ := H
         replace H : (if t405 = 0 then (if t397 < (t390.length : Int) then (if (rd t390 t397) ≥ t403 then (laws_FnGusts.j1 kj9 t375 t376 t377 t380 t381 t388 t389 t390 t397 (decide ((rd t390 t397) ≤ t404))) else (laws_FnGusts.j1 kj9 t375 t376 t377 t380 t381 t388 t389 t390 t397 false)) else (none)) else (laws_FnGusts.j1 kj9 t375 t376 t377 t380 t381 t388 t389 t390 t397 true)) = some r := H
         have A36 := Aside0.mk A360
         clear A360
         have HC37 := Aside0.mk H
         clear H
         have p402 : 0 ≤ (t397 : Int) := of_decide_eq_true (by with_reducible assumption)
         have q402 : t397 < (t389.length : Int) := of_decide_eq_true (by with_reducible assumption)
         obtain ⟨ad402, e402, hx402_0⟩ := Kd.at_int (Kd.R_reads' HO_11.out).2.2 t397 p402 q402
         cases e402
         replace p402 := eq_true p402
         replace q402 := eq_true q402
         go_upto_region 13 with (first | ((with_reducible refine gate_callee (f := 20) rfl ?_); refine goesL_ (some 96) rfl rfl Try.func20 (by kernel_rfl) rfl #[.slice Ao16 t388.length co16, .int .i64 (rd t389 t397)] rfl (by (try simp only [List.map_toArray, List.map_cons, List.map_nil]); first | done | rfl | (go_simp; done) | simp) ?_; (with_reducible refine (impl_WindAt.calls kj9 _ _ t388 (rd t389 t397) t403 t404 t405 _ ?side1 ?side2 A36.out).mono ?_); (case side1 => repeat (first | exact (Kd.R_reads' HO_10.out).2.2 | (with_reducible first | apply cA | apply cN | apply cD))); (case side2 => exact (Kd.R_reads' HO_10.out).2.1); rintro e w38 ⟨rfl, hb⟩; refine ⟨_, rfl, ?_⟩; have n0_ := Aside0.mk (Kd.R_below (by (with_reducible repeat (first | apply rA | apply rN | apply rD)); exact HO_3.out) hb); have n1_ := Aside0.mk (Kd.R_below (by (with_reducible repeat (first | apply rA | apply rN | apply rD)); exact HO_6.out) hb); have n2_ := Aside0.mk (Kd.R_below (by (with_reducible repeat (first | apply rA | apply rN | apply rD)); exact HO_10.out) hb); have n3_ := Aside0.mk (Kd.R_below (by (with_reducible repeat (first | apply rA | apply rN | apply rD)); exact HO_11.out) hb); have n4_ := Aside0.mk (Kd.R_below (by (with_reducible repeat (first | apply rA | apply rN | apply rD)); exact HO_12.out) hb); have n5_ := Aside0.mk (below_step (by repeat (first | (with_reducible first | exact HB.out | apply lA | apply lN | apply lD) | exact HB.out)) hb); clear HO_3; clear HO_6; clear HO_10; clear HO_11; clear HO_12; clear HB; have HO_3 := n0_; have HO_6 := n1_; have HO_10 := n2_; have HO_11 := n3_; have HO_12 := n4_; have HB := n5_; clear n0_ n1_ n2_ n3_ n4_ n5_; (try clear hb); (try clear hb2); (try clear hk); (try clear hi)))
         (try simp only [Act.put, sT, s0, sS])
         go_cut [117] (fun v117 wc => ∃ (kq : Nat) (x117_36 : Bool), v117 = .bool x117_36 ∧ Aside0 (laws_FnGusts.j1 kq t375 t376 t377 t380 t381 t388 t389 t390 t397 x117_36 = some r) ∧ Aside0 (kq ≤ kj9) ∧ Aside0 (Kd.R k55 55 wc w.heap.size (fun k_ => some k_ ≠ (v382 : Value).ownBlock ∧ some k_ ≠ ((.slice Ao16 t388.length co16) : Value).ownBlock) (.slice Ao12 t375.length co12) t375) ∧ Aside0 (Kd.R k55 55 wc w.heap.size (fun k_ => some k_ ≠ ((.slice Ao12 t375.length co12) : Value).ownBlock ∧ some k_ ≠ ((.slice Ao16 t388.length co16) : Value).ownBlock) v382 t380) ∧ Aside0 (Kd.R k55 55 wc w.heap.size (fun k_ => some k_ ≠ ((.slice Ao12 t375.length co12) : Value).ownBlock ∧ some k_ ≠ (v382 : Value).ownBlock) (.slice Ao16 t388.length co16) t388) ∧ Aside0 (Kd.R (Kd.int .i64) 2 wc w.heap.size (fun k_ => some k_ ≠ ((.slice Ao18 t390.length co18) : Value).ownBlock) (.slice (some ad402) t389.length co17) t389) ∧ Aside0 (Kd.R (Kd.int .i64) 2 wc w.heap.size (fun k_ => some k_ ≠ ((.slice (some ad402) t389.length co17) : Value).ownBlock) (.slice Ao18 t390.length co18) t390) ∧ Aside0 (Below w.heap.size w wc))
         case first =>
          have H := HC37.out
          clear HC37
          by_cases c39 : t405 = 0
          ·
           rw [if_pos c39] at H
           have c39b0 : (t405 == 0) = true := beq_iff_eq.mpr c39
           have c39b1 : (t405 != 0) = false := bne_eq_false_iff_eq.mpr c39
           clear c39
           (first | rw [c39b0] | (simp only [i64_w, i32_w]; rw [c39b0]) | skip)
           by_cases c40 : t397 < (t390.length : Int)
           ·
            rw [if_pos c40] at H
            have c40b0 : decide (t397 < (t390.length : Int)) = true := decide_eq_true c40
            clear c40
            by_cases c41 : (rd t390 t397) ≥ t403
            ·
             rw [if_pos c41] at H
             have c41b0 : decide (t403 ≤ (rd t390 t397)) = true := decide_eq_true c41
             clear c41
             have H' := Aside0.mk H
             clear H
             have p406 : 0 ≤ (t397 : Int) := of_decide_eq_true (by with_reducible assumption)
             have q406 : t397 < (t390.length : Int) := of_decide_eq_true (by with_reducible assumption)
             obtain ⟨ad406, e406, hx406_0⟩ := Kd.at_int (Kd.R_reads' HO_12.out).2.2 t397 p406 q406
             cases e406
             replace p406 := eq_true p406
             replace q406 := eq_true q406
             have p407 : 0 ≤ (t397 : Int) := of_decide_eq_true (by with_reducible assumption)
             have q407 : t397 < (t390.length : Int) := of_decide_eq_true (by with_reducible assumption)
             obtain ⟨ad407, e407, hx407_0⟩ := Kd.at_int (Kd.R_reads' HO_12.out).2.2 t397 p407 q407
             obtain rfl : ad406 = ad407 := (by injection e407)
             replace p407 := eq_true p407
             replace q407 := eq_true q407
             go_wp2
             go_meet
             case rel => exact ⟨_, (decide ((rd t390 t397) ≤ t404)), (by first | rfl | (simp; done) | (simp [*]; done)), H', ⟨by have := HJ9.out; first | omega | exact Nat.le_refl _⟩, ⟨by (with_reducible repeat (first | apply rA | apply rN | apply rD)); exact HO_3.out⟩, ⟨by (with_reducible repeat (first | apply rA | apply rN | apply rD)); exact HO_6.out⟩, ⟨by (with_reducible repeat (first | apply rA | apply rN | apply rD)); exact HO_10.out⟩, ⟨by (with_reducible repeat (first | apply rA | apply rN | apply rD)); exact HO_11.out⟩, ⟨by (with_reducible repeat (first | apply rA | apply rN | apply rD)); exact HO_12.out⟩, ⟨by repeat (first | (with_reducible first | exact HB.out | apply lA | apply lN | apply lD) | exact HB.out)⟩⟩
            ·
             rw [if_neg c41] at H
             have c41b0 : decide (t403 ≤ (rd t390 t397)) = false := decide_eq_false c41
             clear c41
             have H' := Aside0.mk H
             clear H
             have p406 : 0 ≤ (t397 : Int) := of_decide_eq_true (by with_reducible assumption)
             have q406 : t397 < (t390.length : Int) := of_decide_eq_true (by with_reducible assumption)
             obtain ⟨ad406, e406, hx406_0⟩ := Kd.at_int (Kd.R_reads' HO_12.out).2.2 t397 p406 q406
             cases e406
             replace p406 := eq_true p406
             replace q406 := eq_true q406
             go_wp2
             go_meet
             case rel => exact ⟨_, (false), (by first | rfl | (simp; done) | (simp [*]; done)), H', ⟨by have := HJ9.out; first | omega | exact Nat.le_refl _⟩, ⟨by (with_reducible repeat (first | apply rA | apply rN | apply rD)); exact HO_3.out⟩, ⟨by (with_reducible repeat (first | apply rA | apply rN | apply rD)); exact HO_6.out⟩, ⟨by (with_reducible repeat (first | apply rA | apply rN | apply rD)); exact HO_10.out⟩, ⟨by (with_reducible repeat (first | apply rA | apply rN | apply rD)); exact HO_11.out⟩, ⟨by (with_reducible repeat (first | apply rA | apply rN | apply rD)); exact HO_12.out⟩, ⟨by repeat (first | (with_reducible first | exact HB.out | apply lA | apply lN | apply lD) | exact HB.out)⟩⟩
           ·
            rw [if_neg c40] at H
            exact absurd H (by simp)
          ·
           rw [if_neg c39] at H
           have c39b0 : (t405 == 0) = false := beq_eq_false_iff_ne.mpr c39
           have c39b1 : (t405 != 0) = true := bne_iff_ne.mpr c39
           (first | rw [c39b0] | (simp only [i64_w, i32_w]; rw [c39b0]) | skip)
           have H' := Aside0.mk H
           clear H
           go_wp2
           go_meet
           case rel => exact ⟨_, (true), (by first | rfl | (simp; done) | (simp [*]; done)), H', ⟨by have := HJ9.out; first | omega | exact Nat.le_refl _⟩, ⟨by (with_reducible repeat (first | apply rA | apply rN | apply rD)); exact HO_3.out⟩, ⟨by (with_reducible repeat (first | apply rA | apply rN | apply rD)); exact HO_6.out⟩, ⟨by (with_reducible repeat (first | apply rA | apply rN | apply rD)); exact HO_10.out⟩, ⟨by (with_reducible repeat (first | apply rA | apply rN | apply rD)); exact HO_11.out⟩, ⟨by (with_reducible repeat (first | apply rA | apply rN | apply rD)); exact HO_12.out⟩, ⟨by repeat (first | (with_reducible first | exact HB.out | apply lA | apply lN | apply lD) | exact HB.out)⟩⟩
         case rest =>
          clear HC37
          try clear c1
          try clear c2
          try clear p2
          try clear c3
          try clear c4
          try clear p4
          try clear q4
          try clear hx4
          try clear c12
          try clear c20
          try clear c21
          try clear c21b0
          try clear c21b1
          try clear c23
          try clear c24
          try clear c24b0
          try clear c24b1
          try clear c31
          try clear c32
          try clear c33
          try clear c33b0
          try clear c33b1
          try clear c34
          try clear c34b0
          try clear c35
          try clear c35b0
          try clear c36
          try clear c37
          try clear c38
          try clear c39
          try clear c39b0
          try clear c39b1
          try clear c40
          try clear c40b0
          try clear p40
          try clear q40
          try clear hx40
          try clear c41
          try clear c41b0
          try clear hx402_0
          try clear hx406_0
          try clear hx407_0
          try clear p2
          try clear p402
          try clear p406
          try clear p407
          try clear q402
          try clear q406
          try clear q407
          obtain ⟨kq, x117_36, rfl, HA, HJ36, HO_3, HO_6, HO_10, HO_11, HO_12, HB⟩ := hcut
          cases kq with
          | zero => exact absurd HA.out (by simp [laws_FnGusts.j1])
          | succ kj36 =>
           have H := HA.out
           clear HA
           simp only [laws_FnGusts.j1] at H
           by_cases c42 : x117_36 = true
           ·
            subst c42
            have H1 : (some false) = some r := by rw [if_pos rfl] at H; exact H
            clear H
            have H := H1
            clear H1
            obtain rfl := Option.some.inj H
            exact absurd hr_.out (by decide)
           ·
            replace c42 := Bool.eq_false_iff.mpr c42
            subst c42
            have H1 : (if 0 ≤ t397 then (if t397 ≤ (t389.length : Int) then (if t397 ≤ (t390.length : Int) then ((impl_FirstGust.f kj36 t388 (t389.take (t397 : Int).toNat) (t390.take (t397 : Int).toNat)).bind fun bt416 => (if bt416.2 = 4 then (if bt416.1 = 0 then (laws_FnGusts.j2 kj36 t375 t376 t377 t380 t381) else (some false)) else (some false))) else (none)) else (none)) else (none)) = some r := by rw [if_neg (show ¬ (false = true) by decide)] at H; exact H
            clear H
            have H := H1
            clear H1
            by_cases c43 : 0 ≤ t397
            ·
             rw [if_pos c43] at H
             have c43b0 := eq_true c43
             have c43b1 : decide (0 ≤ t397) = true := decide_eq_true c43
             clear c43
             by_cases c44 : t397 ≤ (t389.length : Int)
             ·
              rw [if_pos c44] at H
              have c44b0 := eq_true c44
              have c44b1 : decide (t397 ≤ (t389.length : Int)) = true := decide_eq_true c44
              clear c44
              obtain ⟨y408, hy408⟩ : ∃ y_ : List Int, y_ = (t389.take (t397 : Int).toNat) := ⟨_, rfl⟩
              replace H : (if t397 ≤ (t390.length : Int) then ((impl_FirstGust.f kj36 t388 y408 (t390.take (t397 : Int).toNat)).bind fun bt416 => (if bt416.2 = 4 then (if bt416.1 = 0 then (laws_FnGusts.j2 kj36 t375 t376 t377 t380 t381) else (some false)) else (some false))) else (none)) = some r := by first | (rw [hy408]; with_reducible exact H) | (have H2_ := (Option.bind_some _ _).symm.trans H; rw [hy408]; with_reducible exact H2_) | (have H2_ := (Option.bind_some _ _).symm.trans H; with_reducible exact H2_) | with_reducible exact H | (rw [hy408]; exact H) | exact H
              have Ny408 := Aside0.mk hy408
              clear hy408
              have c45b0 := eq_true (of_decide_eq_true (by with_reducible assumption) : 0 ≤ t397)
              by_cases c46 : t397 ≤ (t390.length : Int)
              ·
               rw [if_pos c46] at H
               have c46b0 := eq_true c46
               have c46b1 : decide (t397 ≤ (t390.length : Int)) = true := decide_eq_true c46
               clear c46
               obtain ⟨y412, hy412⟩ : ∃ y_ : List Int, y_ = (t390.take (t397 : Int).toNat) := ⟨_, rfl⟩
               replace H : ((impl_FirstGust.f kj36 t388 y408 y412).bind fun bt416 => (if bt416.2 = 4 then (if bt416.1 = 0 then (laws_FnGusts.j2 kj36 t375 t376 t377 t380 t381) else (some false)) else (some false))) = some r := by first | (rw [hy412]; with_reducible exact H) | (have H2_ := (Option.bind_some _ _).symm.trans H; rw [hy412]; with_reducible exact H2_) | (have H2_ := (Option.bind_some _ _).symm.trans H; with_reducible exact H2_) | with_reducible exact H | (rw [hy412]; exact H) | exact H
               have Ny412 := Aside0.mk hy412
               clear hy412
               replace H := Option.bind_eq_some_iff.mp H
               obtain ⟨⟨t416, t417⟩, A470, H⟩ := H
               replace H : (if t417 = 4 then (if t416 = 0 then (laws_FnGusts.j2 kj36 t375 t376 t377 t380 t381) else (some false)) else (some false)) = some r := H
               have A47 := Aside0.mk A470
               clear A470
               by_cases c48 : t417 = 4
               ·
                rw [if_pos c48] at H
                have c48b0 : (t417 == 4) = true := beq_iff_eq.mpr c48
                have c48b1 : (t417 != 4) = false := bne_eq_false_iff_eq.mpr c48
                clear c48
                by_cases c49 : t416 = 0
                ·
                 rw [if_pos c49] at H
                 have c49b0 : (t416 == 0) = true := beq_iff_eq.mpr c49
                 have c49b1 : (t416 != 0) = false := bne_eq_false_iff_eq.mpr c49
                 clear c49
                 have H' := Aside0.mk H
                 clear H
                 try go_wp2
                 have n0_ := Aside0.mk (Kd.R_drew HO_3.out)
                 have n1_ := Aside0.mk (Kd.R_drew HO_6.out)
                 have n2_ := Aside0.mk (Kd.R_drew HO_10.out)
                 have n3_ := Aside0.mk (Kd.R_drew HO_11.out)
                 have n4_ := Aside0.mk (Kd.R_drew HO_12.out)
                 have n5_ := Aside0.mk (below_drew1 HB.out)
                 clear HO_3
                 clear HO_6
                 clear HO_10
                 clear HO_11
                 clear HO_12
                 clear HB
                 have HO_3 := n0_
                 have HO_6 := n1_
                 have HO_10 := n2_
                 have HO_11 := n3_
                 have HO_12 := n4_
                 have HB := n5_
                 clear n0_ n1_ n2_ n3_ n4_ n5_
                 have q51 : (t397 : Int) ≤ ((t389.length : Int) : Int) := of_decide_eq_true (by with_reducible assumption)
                 obtain ⟨i051, hi051, _, hsz51, _⟩ := info_parts info2
                 have hroom51 : t389.length ≤ co17 := (Kd.R_reads' HO_11.out).2.1
                 have hC51 : Kd.C (Kd.int .i64) _ (some ad402) t389.length t389 := (Kd.R_reads' HO_11.out).2.2
                 have hcut51 := cut_to (P := Try.prog) 39 2 .i64 Try.underlying39 hi051 (some ad402) t389.length co17 t397 (of_decide_eq_true (by with_reducible assumption)) q51 hroom51
                 have hr51 := Kd.C_take (m := (t397 : Int).toNat) hC51 (by omega)
                 have hy51 : y408.length = (t397 : Int).toNat := (by rw [Ny408.out, List.length_take]; omega)
                 rw [← Ny408.out] at hr51
                 rw [← hy51] at hcut51
                 have HR411 := Aside0.mk hr51
                 have HC411 := Aside0.mk (show y408.length ≤ co17 from by omega)
                 clear hr51 hC51 hroom51 hi051 hsz51
                 have KY51 := Aside0.mk hy51
                 clear hy51
                 have KL51 := Aside0.mk (show (t397 : Int).toNat ≤ t389.length from by omega)
                 replace q51 := eq_true q51
                 have q52 : (t397 : Int) ≤ ((t390.length : Int) : Int) := of_decide_eq_true (by with_reducible assumption)
                 obtain ⟨i052, hi052, _, hsz52, _⟩ := info_parts info2
                 have hroom52 : t390.length ≤ co18 := (Kd.R_reads' HO_12.out).2.1
                 have hC52 : Kd.C (Kd.int .i64) _ Ao18 t390.length t390 := (Kd.R_reads' HO_12.out).2.2
                 have hcut52 := cut_to (P := Try.prog) 39 2 .i64 Try.underlying39 hi052 Ao18 t390.length co18 t397 (of_decide_eq_true (by with_reducible assumption)) q52 hroom52
                 have hr52 := Kd.C_take (m := (t397 : Int).toNat) hC52 (by omega)
                 have hy52 : y412.length = (t397 : Int).toNat := (by rw [Ny412.out, List.length_take]; omega)
                 rw [← Ny412.out] at hr52
                 rw [← hy52] at hcut52
                 have HR415 := Aside0.mk hr52
                 have HC415 := Aside0.mk (show y412.length ≤ co18 from by omega)
                 clear hr52 hC52 hroom52 hi052 hsz52
                 have KY52 := Aside0.mk hy52
                 clear hy52
                 have KL52 := Aside0.mk (show (t397 : Int).toNat ≤ t390.length from by omega)
                 replace q52 := eq_true q52
                 refine start_ (n := 13) (S := fun w' => True) (ds := []) #[false, false, false, false, false, false, false, false, false, false, false, false, false] (by kernel_rfl) rfl rfl trivial (fun hHeld => ?_); refine with_tabW laws_FnGusts.tab15 laws_FnGusts.bits15 (fun HT_ HW_ => ?_)
                 generalize wc.drew = w50 at HO_3 HO_6 HO_10 HO_11 HO_12 HB HR411 HR415 hHeld ⊢
                 refine pure_ (i := 0) (N := some 119) (v := ?_) (a' := ?_) #[true, false, false, false, false, false, false, false, false, false, false, false, false] rfl rfl (any_of HT_.out (by kernel_rfl)) (fun _ _ _ h => h) (Or.inl ⟨by rfl, ?_⟩) ?_ ?_
                 rotate_left
                 ·
                  intro w'
                  go_simp
                  with_reducible rfl
                 rotate_left
                 ·
                  simp only [Act.put, sT, s0, sS, i64_w, i32_w]
                  rfl
                 refine pure_ (i := 1) (N := some 120) (v := ?_) (a' := ?_) #[true, true, false, false, false, false, false, false, false, false, false, false, false] rfl rfl (any_of HT_.out (by kernel_rfl)) (fun _ _ _ h => h) (Or.inl ⟨by rfl, ?_⟩) ?_ ?_
                 rotate_left
                 ·
                  intro w'
                  go_simp
                  with_reducible rfl
                 rotate_left
                 ·
                  simp only [Act.put, sT, s0, sS, i64_w, i32_w]
                  rfl
                 refine pure_ (i := 2) (N := some 121) (v := ?_) (a' := ?_) #[true, true, true, false, false, false, false, false, false, false, false, false, false] rfl rfl (any_of HT_.out (by kernel_rfl)) (fun _ _ _ h => h) (Or.inl ⟨by rfl, ?_⟩) ?_ ?_
                 rotate_left
                 ·
                  intro w'
                  go_simp
                  with_reducible rfl
                 rotate_left
                 ·
                  simp only [Act.put, sT, s0, sS, i64_w, i32_w]
                  rfl
                 refine pure_ (i := 3) (N := some 122) (v := ?_) (a' := ?_) #[true, true, true, true, false, false, false, false, false, false, false, false, false] rfl rfl (any_of HT_.out (by kernel_rfl)) (fun _ _ _ h => h) (Or.inl ⟨by rfl, ?_⟩) ?_ ?_
                 rotate_left
                 ·
                  intro w'
                  go_simp
                  with_reducible rfl
                 rotate_left
                 ·
                  simp only [Act.put, sT, s0, sS, i64_w, i32_w]
                  rfl
                 refine pure_ (i := 4) (N := some 123) (v := ?_) (a' := ?_) #[true, true, true, true, true, false, false, false, false, false, false, false, false] rfl rfl (any_of HT_.out (by kernel_rfl)) (fun _ _ _ h => h) (Or.inl ⟨by rfl, ?_⟩) ?_ ?_
                 rotate_left
                 ·
                  intro w'
                  go_simp
                  with_reducible rfl
                 rotate_left
                 ·
                  simp only [Act.put, sT, s0, sS, i64_w, i32_w]
                  rfl
                 refine pure_ (i := 5) (N := some 124) (v := ?_) (a' := ?_) #[true, true, true, true, true, true, false, false, false, false, false, false, false] rfl rfl (any_of HT_.out (by kernel_rfl)) (fun _ _ _ h => h) (Or.inl ⟨by rfl, ?_⟩) ?_ ?_
                 rotate_left
                 ·
                  intro w'
                  go_simp
                  with_reducible rfl
                 rotate_left
                 ·
                  simp only [Act.put, sT, s0, sS, i64_w, i32_w]
                  rfl
                 refine pure_ (i := 6) (N := some 125) (v := ?_) (a' := ?_) #[true, true, true, true, true, true, true, false, false, false, false, false, false] rfl rfl (any_of HT_.out (by kernel_rfl)) (fun _ _ _ h => h) (Or.inl ⟨by rfl, ?_⟩) ?_ ?_
                 rotate_left
                 ·
                  intro w'
                  go_simp
                  with_reducible rfl
                 rotate_left
                 ·
                  simp only [Act.put, sT, s0, sS, i64_w, i32_w]
                  rfl
                 refine one_ (i := 7) (N := some 126) #[true, true, true, true, true, true, true, true, false, false, false, false, false] rfl rfl (one_of HT_.out (by kernel_rfl)) (by decide) (fun K hK => ?_)
                 refine goes_ Try.func34 (by kernel_rfl) rfl #[.slice Ao16 t388.length co16, .slice (some ad402) y408.length co17, .slice Ao18 y412.length co18] (by rfl) rfl rfl (by (try simp only [List.map_toArray, List.map_cons, List.map_nil]); first | done | rfl | (go_simp; done) | simp) ?_
                 with_reducible refine (impl_FirstGust.calls kj36 _ _ t388 _ _ y408 _ _ y412 t416 t417 _ ?side1 ?side2 ?side3 ?side4 ?side5 ?side6 A47.out).mono ?_
                 (case side1 => repeat (first | exact (Kd.R_reads' HO_10.out).2.2 | (with_reducible first | apply cA | apply cN | apply cD)))
                 (case side2 => exact (Kd.R_reads' HO_10.out).2.1)
                 (case side3 => repeat (first | exact (by repeat (first | (with_reducible exact HR411.out) | (with_reducible first | apply cA | apply cN | apply cD) | exact HR411.out)) | (with_reducible first | apply cA | apply cN | apply cD)))
                 (case side4 => exact HC411.out)
                 (case side5 => repeat (first | exact (by repeat (first | (with_reducible exact HR415.out) | (with_reducible first | apply cA | apply cN | apply cD) | exact HR415.out)) | (with_reducible first | apply cA | apply cN | apply cD)))
                 (case side6 => exact HC415.out)
                 rintro e w53 ⟨rfl, hb⟩
                 refine ⟨_, rfl, ?_⟩
                 have n0_ := Aside0.mk (Kd.R_below (by (with_reducible repeat (first | apply rA | apply rN | apply rD)); exact HO_3.out) hb)
                 have n1_ := Aside0.mk (Kd.R_below (by (with_reducible repeat (first | apply rA | apply rN | apply rD)); exact HO_6.out) hb)
                 have n2_ := Aside0.mk (Kd.R_below (by (with_reducible repeat (first | apply rA | apply rN | apply rD)); exact HO_10.out) hb)
                 have n3_ := Aside0.mk (Kd.R_below (by (with_reducible repeat (first | apply rA | apply rN | apply rD)); exact HO_11.out) hb)
                 have n4_ := Aside0.mk (Kd.R_below (by (with_reducible repeat (first | apply rA | apply rN | apply rD)); exact HO_12.out) hb)
                 have n5_ := Aside0.mk (Kd.C_below (by repeat (first | (with_reducible exact HR411.out) | (with_reducible first | apply cA | apply cN | apply cD) | exact HR411.out)) hb)
                 have n6_ := Aside0.mk (Kd.C_below (by repeat (first | (with_reducible exact HR415.out) | (with_reducible first | apply cA | apply cN | apply cD) | exact HR415.out)) hb)
                 have n7_ := Aside0.mk (below_step (by repeat (first | (with_reducible first | exact HB.out | apply lA | apply lN | apply lD) | exact HB.out)) hb)
                 clear HO_3
                 clear HO_6
                 clear HO_10
                 clear HO_11
                 clear HO_12
                 clear HR411
                 clear HR415
                 clear HB
                 have HO_3 := n0_
                 have HO_6 := n1_
                 have HO_10 := n2_
                 have HO_11 := n3_
                 have HO_12 := n4_
                 have HR411 := n5_
                 have HR415 := n6_
                 have HB := n7_
                 clear n0_ n1_ n2_ n3_ n4_ n5_ n6_ n7_
                 (try clear hb)
                 (try clear hb2)
                 (try clear hk)
                 (try clear hi)
                 refine hK.out _ _ trivial (fun hHeld => ?_)
                 clear hK K
                 refine norm_ (a' := ?_) ?_ ?_
                 rotate_left
                 ·
                  show Act.put _ (some 126) _ = _
                  simp only [Act.put, sT, s0, sS, i64_w, i32_w]
                  rfl
                 refine pure_ (i := 8) (N := some 118) (v := ?_) (a' := ?_) #[true, true, true, true, true, true, true, true, true, false, false, false, false] rfl rfl (any_of HT_.out (by kernel_rfl)) (fun _ _ _ h => h) (Or.inl ⟨by rfl, ?_⟩) ?_ ?_
                 rotate_left
                 ·
                  intro w'
                  go_simp
                  with_reducible rfl
                 rotate_left
                 ·
                  simp only [Act.put, sT, s0, sS, i64_w, i32_w]
                  rfl
                 refine pure_ (i := 9) (N := some 127) (v := ?_) (a' := ?_) #[true, true, true, true, true, true, true, true, true, true, false, false, false] rfl rfl (any_of HT_.out (by kernel_rfl)) (fun _ _ _ h => h) (Or.inl ⟨by rfl, ?_⟩) ?_ ?_
                 rotate_left
                 ·
                  intro w'
                  go_simp
                  with_reducible rfl
                 rotate_left
                 ·
                  simp only [Act.put, sT, s0, sS, i64_w, i32_w]
                  rfl
                 refine pure_ (i := 10) (N := some 128) (v := ?_) (a' := ?_) #[true, true, true, true, true, true, true, true, true, true, true, false, false] rfl rfl (any_of HT_.out (by kernel_rfl)) (fun _ _ _ h => h) (Or.inl ⟨by rfl, ?_⟩) ?_ ?_
                 rotate_left
                 ·
                  intro w'
                  go_simp
                  with_reducible rfl
                 rotate_left
                 ·
                  simp only [Act.put, sT, s0, sS, i64_w, i32_w]
                  rfl
                 refine pure_ (i := 11) (N := some 20) (v := ?_) (a' := ?_) #[true, true, true, true, true, true, true, true, true, true, true, true, false] rfl rfl (any_of HT_.out (by kernel_rfl)) (fun _ _ _ h => h) (Or.inl ⟨by rfl, ?_⟩) ?_ ?_
                 rotate_left
                 ·
                  intro w'
                  go_simp
                  with_reducible rfl
                 rotate_left
                 ·
                  simp only [Act.put, sT, s0, sS, i64_w, i32_w]
                  rfl
                 refine pure_ (i := 12) (N := some 21) (v := ?_) (a' := ?_) #[true, true, true, true, true, true, true, true, true, true, true, true, true] rfl rfl (any_of HT_.out (by kernel_rfl)) (fun _ _ _ h => h) (Or.inl ⟨by rfl, ?_⟩) ?_ ?_
                 rotate_left
                 ·
                  intro w'
                  go_simp
                  with_reducible rfl
                 rotate_left
                 ·
                  simp only [Act.put, sT, s0, sS, i64_w, i32_w]
                  rfl
                 refine done_ (done_of HT_.out (by kernel_rfl)) ?_
                 try go_wp2
                 go_meet
                 case rel => exact ⟨_, H', ⟨by have := HJ9.out; have := HJ36.out; first | omega | exact Nat.le_refl _⟩, ⟨by (with_reducible repeat (first | apply rA | apply rN | apply rD)); exact Kd.R_mono HO_3.out (fun _ hk => hk.1)⟩, ⟨by (with_reducible repeat (first | apply rA | apply rN | apply rD)); exact Kd.R_mono HO_6.out (fun _ hk => hk.1)⟩, ⟨by repeat (first | (with_reducible first | exact HB.out | apply lA | apply lN | apply lD) | exact HB.out)⟩⟩
                ·
                 rw [if_neg c49] at H
                 have c49b0 : (t416 == 0) = false := beq_eq_false_iff_ne.mpr c49
                 have c49b1 : (t416 != 0) = true := bne_iff_ne.mpr c49
                 obtain rfl := Option.some.inj H
                 exact absurd hr_.out (by decide)
               ·
                rw [if_neg c48] at H
                have c48b0 : (t417 == 4) = false := beq_eq_false_iff_ne.mpr c48
                have c48b1 : (t417 != 4) = true := bne_iff_ne.mpr c48
                obtain rfl := Option.some.inj H
                exact absurd hr_.out (by decide)
              ·
               rw [if_neg c46] at H
               exact absurd H (by simp)
             ·
              rw [if_neg c44] at H
              exact absurd H (by simp)
            ·
             rw [if_neg c43] at H
             exact absurd H (by simp)
        ·
         rw [if_neg c35] at H
         exact absurd H (by simp)
       ·
        rw [if_neg c34] at H
        exact absurd H (by simp)
      ·
       rw [if_neg c33] at H
       have c33b0 : (t398 == 0) = false := beq_eq_false_iff_ne.mpr c33
       have c33b1 : (t398 != 0) = true := bne_iff_ne.mpr c33
       (first | rw [c33b0] | (simp only [i64_w, i32_w]; rw [c33b0]) | skip)
       have H' := Aside0.mk H
       clear H
       go_wp2
       go_meet
       case rel => exact ⟨_, H', ⟨by have := HJ9.out; first | omega | exact Nat.le_refl _⟩, ⟨by (with_reducible repeat (first | apply rA | apply rN | apply rD)); exact Kd.R_mono HO_3.out (fun _ hk => hk.1)⟩, ⟨by (with_reducible repeat (first | apply rA | apply rN | apply rD)); exact Kd.R_mono HO_6.out (fun _ hk => hk.1)⟩, ⟨by repeat (first | (with_reducible first | exact HB.out | apply lA | apply lN | apply lD) | exact HB.out)⟩⟩
     case rest =>
      clear HC32
      try clear c1
      try clear c2
      try clear p2
      try clear c3
      try clear c4
      try clear p4
      try clear q4
      try clear hx4
      try clear q5
      try clear c12
      try clear c20
      try clear c21
      try clear c21b0
      try clear c21b1
      try clear c23
      try clear c24
      try clear c24b0
      try clear c24b1
      try clear c31
      try clear c32
      try clear c33
      try clear c33b0
      try clear c33b1
      try clear c34
      try clear c34b0
      try clear c35
      try clear c35b0
      try clear c36
      try clear c37
      try clear c38
      try clear c39
      try clear c39b0
      try clear c39b1
      try clear c40
      try clear c40b0
      try clear p40
      try clear q40
      try clear hx40
      try clear c41
      try clear c41b0
      try clear c42
      try clear c43
      try clear c43b0
      try clear c43b1
      try clear c44
      try clear c44b0
      try clear c44b1
      try clear c45
      try clear c45b0
      try clear c46
      try clear c46b0
      try clear c46b1
      try clear c48
      try clear c48b0
      try clear c48b1
      try clear c49
      try clear c49b0
      try clear c49b1
      try clear q51
      try clear q52
      try clear hx402_0
      try clear hx406_0
      try clear hx407_0
      try clear p2
      try clear p4
      try clear p40
      try clear p402
      try clear p406
      try clear p407
      try clear q4
      try clear q40
      try clear q402
      try clear q406
      try clear q407
      try clear q51
      try clear q52
      obtain ⟨kq, HA, HJ31, HO_3, HO_6, HB⟩ := hcut
      cases kq with
      | zero => exact absurd HA.out (by simp [laws_FnGusts.j2])
      | succ kj31 =>
       have H := HA.out
       clear HA
       simp only [laws_FnGusts.j2] at H
       by_cases c54 : t381 = 0
       ·
        rw [if_pos c54] at H
        have c54b0 : (t381 == 0) = true := beq_iff_eq.mpr c54
        have c54b1 : (t381 != 0) = false := bne_eq_false_iff_eq.mpr c54
        clear c54
        replace H := Option.bind_eq_some_iff.mp H
        obtain ⟨⟨t418, t419, t420⟩, A550, H⟩ := H
        replace H : (laws_FnGusts.l0 kj31 t375 t377 t380 t418 t419 t420 0 0) = some r := H
        have A55 := Aside0.mk A550
        clear A550
        have H' := Aside0.mk H
        clear H
        obtain ⟨Ao56, co56, eo56⟩ := Kd.R_slice HO_6.out
        subst eo56
        go_wp2_with (first | ((with_reducible refine gate_callee (f := 20) rfl ?_); refine goesL_ (some 140) rfl rfl Try.func20 (by kernel_rfl) rfl #[.slice Ao56 t380.length co56, .int .i64 t376] rfl (by (try simp only [List.map_toArray, List.map_cons, List.map_nil]); first | done | rfl | (go_simp; done) | simp) ?_; (with_reducible refine (impl_WindAt.calls kj31 _ _ t380 t376 t418 t419 t420 _ ?side1 ?side2 A55.out).mono ?_); (case side1 => repeat (first | exact (Kd.R_reads' HO_6.out).2.2 | (with_reducible first | apply cA | apply cN | apply cD))); (case side2 => exact (Kd.R_reads' HO_6.out).2.1); rintro e w57 ⟨rfl, hb⟩; refine ⟨_, rfl, ?_⟩; have n0_ := Aside0.mk (Kd.R_below (by (with_reducible repeat (first | apply rA | apply rN | apply rD)); exact HO_3.out) hb); have n1_ := Aside0.mk (Kd.R_below (by (with_reducible repeat (first | apply rA | apply rN | apply rD)); exact HO_6.out) hb); have n2_ := Aside0.mk (below_step (by repeat (first | (with_reducible first | exact HB.out | apply lA | apply lN | apply lD) | exact HB.out)) hb); clear HO_3; clear HO_6; clear HB; have HO_3 := n0_; have HO_6 := n1_; have HB := n2_; clear n0_ n1_ n2_; (try clear hb); (try clear hb2); (try clear hk); (try clear hi)))
        go_loopg [25, 26] kj31 (fun kq v25 v26 w' => ∃ (x25_3 : Int) (x26_3 : Int), v25 = .int .i64 x25_3 ∧ v26 = .int .i64 x26_3 ∧ Aside0 (laws_FnGusts.l0 kq t375 t377 t380 t418 t419 t420 x25_3 x26_3 = some r) ∧ Aside0 (kq ≤ kj31) ∧ Aside0 (Kd.R k55 55 w' w.heap.size (fun k_ => some k_ ≠ ((.slice Ao56 t380.length co56) : Value).ownBlock) (.slice Ao12 t375.length co12) t375) ∧ Aside0 (Kd.R k55 55 w' w.heap.size (fun k_ => some k_ ≠ ((.slice Ao12 t375.length co12) : Value).ownBlock) (.slice Ao56 t380.length co56) t380) ∧ Aside0 (Below w.heap.size w w'))
        case atStart => exact ⟨(0), (0), (by first | rfl | (simp; done) | (simp [*]; done)), (by first | rfl | (simp; done) | (simp [*]; done)), H', ⟨Nat.le_refl _⟩, ⟨by (with_reducible repeat (first | apply rA | apply rN | apply rD)); exact HO_3.out⟩, ⟨by (with_reducible repeat (first | apply rA | apply rN | apply rD)); exact HO_6.out⟩, ⟨by repeat (first | (with_reducible first | exact HB.out | apply lA | apply lN | apply lD) | exact HB.out)⟩⟩
        case round =>
         clear H'
         try clear c1
         try clear c2
         try clear p2
         try clear c3
         try clear c4
         try clear p4
         try clear q4
         try clear hx4
         try clear c5
         try clear q5
         try clear c12
         try clear c20
         try clear c21
         try clear c21b0
         try clear c21b1
         try clear c23
         try clear c24
         try clear c24b0
         try clear c24b1
         try clear c31
         try clear c32
         try clear c33
         try clear c33b0
         try clear c33b1
         try clear c34
         try clear c34b0
         try clear c35
         try clear c35b0
         try clear c36
         try clear c37
         try clear c38
         try clear c39
         try clear c39b0
         try clear c39b1
         try clear c40
         try clear c40b0
         try clear p40
         try clear q40
         try clear hx40
         try clear c41
         try clear c41b0
         try clear c42
         try clear c43
         try clear c43b0
         try clear c43b1
         try clear c44
         try clear c44b0
         try clear c44b1
         try clear c45
         try clear c45b0
         try clear c46
         try clear c46b0
         try clear c46b1
         try clear c48
         try clear c48b0
         try clear c48b1
         try clear c49
         try clear c49b0
         try clear c49b1
         try clear q51
         try clear q52
         try clear c54
         try clear c54b0
         try clear c54b1
         try clear hx402_0
         try clear hx406_0
         try clear hx407_0
         try clear p2
         try clear p4
         try clear p40
         try clear p402
         try clear p406
         try clear p407
         try clear q4
         try clear q40
         try clear q402
         try clear q406
         try clear q407
         try clear q5
         try clear q51
         try clear q52
         obtain ⟨x25_3, x26_3, rfl, rfl, HA, HK3, HO_3, HO_6, HB⟩ := hrel
         cases gk with
         | zero => exact absurd HA.out (by simp [laws_FnGusts.l0])
         | succ k3 =>
          have H := HA.out
          clear HA
          simp only [laws_FnGusts.l0] at H
          by_cases c58 : x26_3 < (t380.length : Int)
          ·
           rw [if_pos c58] at H
           have c58b0 : decide (x26_3 < (t380.length : Int)) = true := decide_eq_true c58
           clear c58
           by_cases c59 : 0 ≤ x26_3
           ·
            rw [if_pos c59] at H
            have c59b0 : decide (0 ≤ x26_3) = true := decide_eq_true c59
            clear c59
            by_cases c60 : x26_3 < (t375.length : Int)
            ·
             rw [if_pos c60] at H
             have c60b0 : decide (x26_3 < (t375.length : Int)) = true := decide_eq_true c60
             clear c60
             by_cases c61 : (!(((rd_T55 t380 x26_3).f0) == ((rd_T55 t375 x26_3).f0)) || (!(((rd_T55 t380 x26_3).f1) == ((rd_T55 t375 x26_3).f1)) || (!(((rd_T55 t380 x26_3).f2) == ((rd_T55 t375 x26_3).f2))))) = true
             ·
              rw [if_pos c61] at H
              have c61b0 : (!(((rd_T55 t380 x26_3).f0) == ((rd_T55 t375 x26_3).f0)) || (!(((rd_T55 t380 x26_3).f1) == ((rd_T55 t375 x26_3).f1)) || (!(((rd_T55 t380 x26_3).f2) == ((rd_T55 t375 x26_3).f2))))) = true := c61
              clear c61
              have H' := Aside0.mk H
              clear H
              try go_wp2
              have n0_ := Aside0.mk (Kd.R_drew HO_3.out)
              have n1_ := Aside0.mk (Kd.R_drew HO_6.out)
              have n2_ := Aside0.mk (below_drew1 HB.out)
              clear HO_3
              clear HO_6
              clear HB
              have HO_3 := n0_
              have HO_6 := n1_
              have HB := n2_
              clear n0_ n1_ n2_
              have p421 : 0 ≤ (x26_3 : Int) := of_decide_eq_true (by with_reducible assumption)
              have q421 : x26_3 < (t380.length : Int) := of_decide_eq_true (by with_reducible assumption)
              obtain ⟨ad421, e421, hx421_0, hx421_1, hx421_2⟩ := at_T55 (Kd.R_reads' HO_6.out).2.2 x26_3 p421 q421
              cases e421
              replace p421 := eq_true p421
              replace q421 := eq_true q421
              have p422 : 0 ≤ (x26_3 : Int) := of_decide_eq_true (by with_reducible assumption)
              have q422 : x26_3 < (t375.length : Int) := of_decide_eq_true (by with_reducible assumption)
              obtain ⟨ad422, e422, hx422_0, hx422_1, hx422_2⟩ := at_T55 (Kd.R_reads' HO_3.out).2.2 x26_3 p422 q422
              cases e422
              replace p422 := eq_true p422
              replace q422 := eq_true q422
              refine start_ (n := 9) (S := fun w' => w'.cell? (ad421.add ((x26_3).toNat * 3)) = some (.int .i64 ((rd_T55 t380 x26_3).f0)) ∧ w'.cell? ⟨(ad421.add ((x26_3).toNat * 3)).block, (ad421.add ((x26_3).toNat * 3)).off + 1, none⟩ = some (.int .i64 ((rd_T55 t380 x26_3).f1)) ∧ w'.cell? ⟨(ad421.add ((x26_3).toNat * 3)).block, (ad421.add ((x26_3).toNat * 3)).off + 2, none⟩ = some (.int .i64 ((rd_T55 t380 x26_3).f2)) ∧ w'.cell? (ad422.add ((x26_3).toNat * 3)) = some (.int .i64 ((rd_T55 t375 x26_3).f0)) ∧ w'.cell? ⟨(ad422.add ((x26_3).toNat * 3)).block, (ad422.add ((x26_3).toNat * 3)).off + 1, none⟩ = some (.int .i64 ((rd_T55 t375 x26_3).f1)) ∧ w'.cell? ⟨(ad422.add ((x26_3).toNat * 3)).block, (ad422.add ((x26_3).toNat * 3)).off + 2, none⟩ = some (.int .i64 ((rd_T55 t375 x26_3).f2))) (ds := []) #[false, false, false, false, false, false, false, false, false] (by kernel_rfl) rfl rfl ⟨hx421_0, hx421_1, hx421_2, hx422_0, hx422_1, hx422_2⟩ (fun hHeld => ?_); refine with_tabW laws_FnGusts.tab25 laws_FnGusts.bits25 (fun HT_ HW_ => ?_)
              generalize wr.drew = w62 at HO_3 HO_6 HB hx421_0 hx421_1 hx421_2 hx422_0 hx422_1 hx422_2 hHeld ⊢
              refine pure_ (i := 0) (N := some 150) (v := ?_) (a' := ?_) #[true, false, false, false, false, false, false, false, false] rfl rfl (any_of HT_.out (by kernel_rfl)) (fun _ _ _ h => h) (Or.inl ⟨by rfl, ?_⟩) ?_ ?_
              rotate_left
              ·
               intro w'
               go_simp
               with_reducible rfl
              rotate_left
              ·
               simp only [Act.put, sT, s0, sS, i64_w, i32_w]
               rfl
              refine pure_ (i := 1) (N := some 151) (v := ?_) (a' := ?_) #[true, true, false, false, false, false, false, false, false] rfl rfl (any_of HT_.out (by kernel_rfl)) (fun _ _ _ h => h) (Or.inl ⟨by rfl, ?_⟩) ?_ ?_
              rotate_left
              ·
               intro w'
               go_simp
               with_reducible rfl
              rotate_left
              ·
               simp only [Act.put, sT, s0, sS, i64_w, i32_w]
               rfl
              refine pure_ (i := 2) (N := some 152) (v := ?_) (a' := ?_) #[true, true, true, false, false, false, false, false, false] rfl rfl (any_of HT_.out (by kernel_rfl)) (fun _ _ _ h => h) (Or.inl ⟨by rfl, ?_⟩) ?_ ?_
              rotate_left
              ·
               intro w'
               go_simp
               with_reducible rfl
              rotate_left
              ·
               simp only [Act.put, sT, s0, sS, i64_w, i32_w]
               rfl
              refine pure_ (i := 4) (N := some 154) (v := ?_) (a' := ?_) #[true, true, true, false, true, false, false, false, false] rfl rfl (any_of HT_.out (by kernel_rfl)) (fun _ _ _ h => h) (Or.inl ⟨by rfl, ?_⟩) ?_ ?_
              rotate_left
              ·
               intro w'
               go_simp
               with_reducible rfl
              rotate_left
              ·
               simp only [Act.put, sT, s0, sS, i64_w, i32_w]
               rfl
              refine pure_ (i := 5) (N := some 155) (v := ?_) (a' := ?_) #[true, true, true, false, true, true, false, false, false] rfl rfl (any_of HT_.out (by kernel_rfl)) (fun _ _ _ h => h) (Or.inl ⟨by rfl, ?_⟩) ?_ ?_
              rotate_left
              ·
               intro w'
               go_simp
               with_reducible rfl
              rotate_left
              ·
               simp only [Act.put, sT, s0, sS, i64_w, i32_w]
               rfl
              refine pure_ (i := 6) (N := some 156) (v := ?_) (a' := ?_) #[true, true, true, false, true, true, true, false, false] rfl rfl (any_of HT_.out (by kernel_rfl)) (fun _ _ _ h => h) (Or.inl ⟨by rfl, ?_⟩) ?_ ?_
              rotate_left
              ·
               intro w'
               go_simp
               with_reducible rfl
              rotate_left
              ·
               simp only [Act.put, sT, s0, sS, i64_w, i32_w]
               rfl
              refine take_ (i := 3) (N := some 153) (v := ?_) (a' := ?_) #[true, true, true, true, true, true, true, false, false] rfl rfl (take_ofW HT_.out HW_.out (by kernel_rfl)) (fun _ _ _ h => h) (Or.inl ⟨by rfl, ?_⟩) hHeld ?_ ?_
              rotate_left
              ·
               rintro w' ⟨s0, s1, s2, s3, s4, s5⟩
               go_simp
               with_reducible rfl
              rotate_left
              ·
               simp only [Act.put, sT, s0, sS, i64_w, i32_w]
               rfl
              refine take_ (i := 7) (N := some 157) (v := ?_) (a' := ?_) #[true, true, true, true, true, true, true, true, false] rfl rfl (take_ofW HT_.out HW_.out (by kernel_rfl)) (fun _ _ _ h => h) (Or.inl ⟨by rfl, ?_⟩) hHeld ?_ ?_
              rotate_left
              ·
               rintro w' ⟨s0, s1, s2, s3, s4, s5⟩
               go_simp
               with_reducible rfl
              rotate_left
              ·
               simp only [Act.put, sT, s0, sS, i64_w, i32_w]
               rfl
              refine pure_ (i := 8) (N := some 158) (v := ?_) (a' := ?_) #[true, true, true, true, true, true, true, true, true] rfl rfl (any_of HT_.out (by kernel_rfl)) (fun _ _ _ h => h) (Or.inl ⟨by rfl, ?_⟩) ?_ ?_
              rotate_left
              ·
               intro w'
               go_simp
               with_reducible rfl
              rotate_left
              ·
               simp only [Act.put, sT, s0, sS, i64_w, i32_w]
               rfl
              refine done_ (done_of HT_.out (by kernel_rfl)) ?_
              try go_wp2
              go_roundg k3
              case measure => have := HJ9.out; have := HJ31.out; have := HK3.out; omega
              case rel => exact ⟨(wrap64 (x25_3 + 1)), (wrap64 (x26_3 + 1)), (by first | rfl | (simp; done) | (simp [*]; done)), (by first | rfl | (simp; done) | (simp [*]; done)), H', ⟨by have := HJ9.out; have := HJ31.out; have := HK3.out; omega⟩, ⟨by (with_reducible repeat (first | apply rA | apply rN | apply rD)); exact HO_3.out⟩, ⟨by (with_reducible repeat (first | apply rA | apply rN | apply rD)); exact HO_6.out⟩, ⟨by repeat (first | (with_reducible first | exact HB.out | apply lA | apply lN | apply lD) | exact HB.out)⟩⟩
             ·
              rw [if_neg c61] at H
              have c61b0 : (!(((rd_T55 t380 x26_3).f0) == ((rd_T55 t375 x26_3).f0)) || (!(((rd_T55 t380 x26_3).f1) == ((rd_T55 t375 x26_3).f1)) || (!(((rd_T55 t380 x26_3).f2) == ((rd_T55 t375 x26_3).f2))))) = false := by simpa using c61
              clear c61
              have H' := Aside0.mk H
              clear H
              try go_wp2
              have n0_ := Aside0.mk (Kd.R_drew HO_3.out)
              have n1_ := Aside0.mk (Kd.R_drew HO_6.out)
              have n2_ := Aside0.mk (below_drew1 HB.out)
              clear HO_3
              clear HO_6
              clear HB
              have HO_3 := n0_
              have HO_6 := n1_
              have HB := n2_
              clear n0_ n1_ n2_
              have p421 : 0 ≤ (x26_3 : Int) := of_decide_eq_true (by with_reducible assumption)
              have q421 : x26_3 < (t380.length : Int) := of_decide_eq_true (by with_reducible assumption)
              obtain ⟨ad421, e421, hx421_0, hx421_1, hx421_2⟩ := at_T55 (Kd.R_reads' HO_6.out).2.2 x26_3 p421 q421
              cases e421
              replace p421 := eq_true p421
              replace q421 := eq_true q421
              have p422 : 0 ≤ (x26_3 : Int) := of_decide_eq_true (by with_reducible assumption)
              have q422 : x26_3 < (t375.length : Int) := of_decide_eq_true (by with_reducible assumption)
              obtain ⟨ad422, e422, hx422_0, hx422_1, hx422_2⟩ := at_T55 (Kd.R_reads' HO_3.out).2.2 x26_3 p422 q422
              cases e422
              replace p422 := eq_true p422
              replace q422 := eq_true q422
              refine start_ (n := 9) (S := fun w' => w'.cell? (ad421.add ((x26_3).toNat * 3)) = some (.int .i64 ((rd_T55 t380 x26_3).f0)) ∧ w'.cell? ⟨(ad421.add ((x26_3).toNat * 3)).block, (ad421.add ((x26_3).toNat * 3)).off + 1, none⟩ = some (.int .i64 ((rd_T55 t380 x26_3).f1)) ∧ w'.cell? ⟨(ad421.add ((x26_3).toNat * 3)).block, (ad421.add ((x26_3).toNat * 3)).off + 2, none⟩ = some (.int .i64 ((rd_T55 t380 x26_3).f2)) ∧ w'.cell? (ad422.add ((x26_3).toNat * 3)) = some (.int .i64 ((rd_T55 t375 x26_3).f0)) ∧ w'.cell? ⟨(ad422.add ((x26_3).toNat * 3)).block, (ad422.add ((x26_3).toNat * 3)).off + 1, none⟩ = some (.int .i64 ((rd_T55 t375 x26_3).f1)) ∧ w'.cell? ⟨(ad422.add ((x26_3).toNat * 3)).block, (ad422.add ((x26_3).toNat * 3)).off + 2, none⟩ = some (.int .i64 ((rd_T55 t375 x26_3).f2))) (ds := []) #[false, false, false, false, false, false, false, false, false] (by kernel_rfl) rfl rfl ⟨hx421_0, hx421_1, hx421_2, hx422_0, hx422_1, hx422_2⟩ (fun hHeld => ?_); refine with_tabW laws_FnGusts.tab25 laws_FnGusts.bits25 (fun HT_ HW_ => ?_)
              generalize wr.drew = w63 at HO_3 HO_6 HB hx421_0 hx421_1 hx421_2 hx422_0 hx422_1 hx422_2 hHeld ⊢
              refine pure_ (i := 0) (N := some 150) (v := ?_) (a' := ?_) #[true, false, false, false, false, false, false, false, false] rfl rfl (any_of HT_.out (by kernel_rfl)) (fun _ _ _ h => h) (Or.inl ⟨by rfl, ?_⟩) ?_ ?_
              rotate_left
              ·
               intro w'
               go_simp
               with_reducible rfl
              rotate_left
              ·
               simp only [Act.put, sT, s0, sS, i64_w, i32_w]
               rfl
              refine pure_ (i := 1) (N := some 151) (v := ?_) (a' := ?_) #[true, true, false, false, false, false, false, false, false] rfl rfl (any_of HT_.out (by kernel_rfl)) (fun _ _ _ h => h) (Or.inl ⟨by rfl, ?_⟩) ?_ ?_
              rotate_left
              ·
               intro w'
               go_simp
               with_reducible rfl
              rotate_left
              ·
               simp only [Act.put, sT, s0, sS, i64_w, i32_w]
               rfl
              refine pure_ (i := 2) (N := some 152) (v := ?_) (a' := ?_) #[true, true, true, false, false, false, false, false, false] rfl rfl (any_of HT_.out (by kernel_rfl)) (fun _ _ _ h => h) (Or.inl ⟨by rfl, ?_⟩) ?_ ?_
              rotate_left
              ·
               intro w'
               go_simp
               with_reducible rfl
              rotate_left
              ·
               simp only [Act.put, sT, s0, sS, i64_w, i32_w]
               rfl
              refine pure_ (i := 4) (N := some 154) (v := ?_) (a' := ?_) #[true, true, true, false, true, false, false, false, false] rfl rfl (any_of HT_.out (by kernel_rfl)) (fun _ _ _ h => h) (Or.inl ⟨by rfl, ?_⟩) ?_ ?_
              rotate_left
              ·
               intro w'
               go_simp
               with_reducible rfl
              rotate_left
              ·
               simp only [Act.put, sT, s0, sS, i64_w, i32_w]
               rfl
              refine pure_ (i := 5) (N := some 155) (v := ?_) (a' := ?_) #[true, true, true, false, true, true, false, false, false] rfl rfl (any_of HT_.out (by kernel_rfl)) (fun _ _ _ h => h) (Or.inl ⟨by rfl, ?_⟩) ?_ ?_
              rotate_left
              ·
               intro w'
               go_simp
               with_reducible rfl
              rotate_left
              ·
               simp only [Act.put, sT, s0, sS, i64_w, i32_w]
               rfl
              refine pure_ (i := 6) (N := some 156) (v := ?_) (a' := ?_) #[true, true, true, false, true, true, true, false, false] rfl rfl (any_of HT_.out (by kernel_rfl)) (fun _ _ _ h => h) (Or.inl ⟨by rfl, ?_⟩) ?_ ?_
              rotate_left
              ·
               intro w'
               go_simp
               with_reducible rfl
              rotate_left
              ·
               simp only [Act.put, sT, s0, sS, i64_w, i32_w]
               rfl
              refine take_ (i := 3) (N := some 153) (v := ?_) (a' := ?_) #[true, true, true, true, true, true, true, false, false] rfl rfl (take_ofW HT_.out HW_.out (by kernel_rfl)) (fun _ _ _ h => h) (Or.inl ⟨by rfl, ?_⟩) hHeld ?_ ?_
              rotate_left
              ·
               rintro w' ⟨s0, s1, s2, s3, s4, s5⟩
               go_simp
               with_reducible rfl
              rotate_left
              ·
               simp only [Act.put, sT, s0, sS, i64_w, i32_w]
               rfl
              refine take_ (i := 7) (N := some 157) (v := ?_) (a' := ?_) #[true, true, true, true, true, true, true, true, false] rfl rfl (take_ofW HT_.out HW_.out (by kernel_rfl)) (fun _ _ _ h => h) (Or.inl ⟨by rfl, ?_⟩) hHeld ?_ ?_
              rotate_left
              ·
               rintro w' ⟨s0, s1, s2, s3, s4, s5⟩
               go_simp
               with_reducible rfl
              rotate_left
              ·
               simp only [Act.put, sT, s0, sS, i64_w, i32_w]
               rfl
              refine pure_ (i := 8) (N := some 158) (v := ?_) (a' := ?_) #[true, true, true, true, true, true, true, true, true] rfl rfl (any_of HT_.out (by kernel_rfl)) (fun _ _ _ h => h) (Or.inl ⟨by rfl, ?_⟩) ?_ ?_
              rotate_left
              ·
               intro w'
               go_simp
               with_reducible rfl
              rotate_left
              ·
               simp only [Act.put, sT, s0, sS, i64_w, i32_w]
               rfl
              refine done_ (done_of HT_.out (by kernel_rfl)) ?_
              try go_wp2
              go_roundg k3
              case measure => have := HJ9.out; have := HJ31.out; have := HK3.out; omega
              case rel => exact ⟨(x25_3), (wrap64 (x26_3 + 1)), (by first | rfl | (simp; done) | (simp [*]; done)), (by first | rfl | (simp; done) | (simp [*]; done)), H', ⟨by have := HJ9.out; have := HJ31.out; have := HK3.out; omega⟩, ⟨by (with_reducible repeat (first | apply rA | apply rN | apply rD)); exact HO_3.out⟩, ⟨by (with_reducible repeat (first | apply rA | apply rN | apply rD)); exact HO_6.out⟩, ⟨by repeat (first | (with_reducible first | exact HB.out | apply lA | apply lN | apply lD) | exact HB.out)⟩⟩
            ·
             rw [if_neg c60] at H
             exact absurd H (by simp)
           ·
            rw [if_neg c59] at H
            exact absurd H (by simp)
          ·
           rw [if_neg c58] at H
           have c58b0 : decide (x26_3 < (t380.length : Int)) = false := decide_eq_false c58
           clear c58
           by_cases c64 : t420 = 0
           ·
            rw [if_pos c64] at H
            have c64b0 : (t420 == 0) = true := beq_iff_eq.mpr c64
            have c64b1 : (t420 != 0) = false := bne_eq_false_iff_eq.mpr c64
            clear c64
            by_cases c65 : t418 ≤ t377
            ·
             rw [if_pos c65] at H
             have c65b0 : decide (t418 ≤ t377) = true := decide_eq_true c65
             clear c65
             by_cases c66 : t377 ≤ t419
             ·
              rw [if_pos c66] at H
              have c66b0 : decide (t377 ≤ t419) = true := decide_eq_true c66
              clear c66
              by_cases c67 : x25_3 ≤ 1
              ·
               rw [if_pos c67] at H
               have c67b0 : decide (x25_3 ≤ 1) = true := decide_eq_true c67
               clear c67
               replace H := Option.bind_eq_some_iff.mp H
               obtain ⟨t423, A680, H⟩ := H
               replace H : (some t423) = some r := H
               have A68 := Aside0.mk A680
               clear A680
               obtain rfl := Option.some.inj H
               simp only [Option.some.injEq, Prod.mk.injEq] at H
               obtain ⟨rfl⟩ := H
               go_wp2_with (first | (go_at_call 17; (with_reducible refine (impl_IsProfile.calls k3 _ _ t380 t423 _ ?side1 ?side2 A68.out).mono ?_); (case side1 => repeat (first | exact (Kd.R_reads' HO_6.out).2.2 | (with_reducible first | apply cA | apply cN | apply cD))); (case side2 => exact (Kd.R_reads' HO_6.out).2.1); rintro e w69 ⟨rfl, hb⟩; have n0_ := Aside0.mk (Kd.R_below (by (with_reducible repeat (first | apply rA | apply rN | apply rD)); exact HO_3.out) hb); have n1_ := Aside0.mk (Kd.R_below (by (with_reducible repeat (first | apply rA | apply rN | apply rD)); exact HO_6.out) hb); have n2_ := Aside0.mk (below_step (by repeat (first | (with_reducible first | exact HB.out | apply lA | apply lN | apply lD) | exact HB.out)) hb); clear HO_3; clear HO_6; clear HB; have HO_3 := n0_; have HO_6 := n1_; have HB := n2_; clear n0_ n1_ n2_; (try clear hb); (try clear hb2); (try clear hk); (try clear hi)))
               go_ret
               exact ⟨by first | rfl | (simp [errW_none, errW_some] <;> rfl) | (simp [*, errW_none, errW_some] <;> rfl), by repeat (first | (with_reducible first | exact HB.out | apply lA | apply lN | apply lD) | exact HB.out)⟩
              ·
               rw [if_neg c67] at H
               have c67b0 : decide (x25_3 ≤ 1) = false := decide_eq_false c67
               clear c67
               obtain rfl := Option.some.inj H
               exact absurd hr_.out (by decide)
             ·
              rw [if_neg c66] at H
              have c66b0 : decide (t377 ≤ t419) = false := decide_eq_false c66
              clear c66
              obtain rfl := Option.some.inj H
              exact absurd hr_.out (by decide)
            ·
             rw [if_neg c65] at H
             have c65b0 : decide (t418 ≤ t377) = false := decide_eq_false c65
             clear c65
             obtain rfl := Option.some.inj H
             exact absurd hr_.out (by decide)
           ·
            rw [if_neg c64] at H
            have c64b0 : (t420 == 0) = false := beq_eq_false_iff_ne.mpr c64
            have c64b1 : (t420 != 0) = true := bne_iff_ne.mpr c64
            obtain rfl := Option.some.inj H
            exact absurd hr_.out (by decide)
       ·
        rw [if_neg c54] at H
        have c54b0 : (t381 == 0) = false := beq_eq_false_iff_ne.mpr c54
        have c54b1 : (t381 != 0) = true := bne_iff_ne.mpr c54
        obtain rfl := Option.some.inj H
        simp only [Option.some.injEq, Prod.mk.injEq] at H
        obtain ⟨rfl⟩ := H
        go_wp2
        go_ret
        exact ⟨by first | rfl | (simp [errW_none, errW_some] <;> rfl) | (simp [*, errW_none, errW_some] <;> rfl), by repeat (first | (with_reducible first | exact HB.out | apply lA | apply lN | apply lD) | exact HB.out)⟩

/-- THE ONE PURE STATEMENT of laws_FnGusts: yours. -/
def laws_FnGusts.Pure : Prop := ∀ (l0 : List Int), l0.length ≤ maxLen → l0.length * 1 ≤ 140737488351232 → (∀ x ∈ l0, (Lit.int .u8 x).wf = true) → ∃ k, laws_FnGusts.f k l0 = some true
theorem laws_FnGusts.walk (P : laws_FnGusts.Pure) (a0 : Option Addr) (len0 cap0 : Nat) (z0 : List Int) (w : World) (w0 : (a0 = none ∧ len0 = 0 ∧ cap0 = 0 ∧ z0 = []) ∨ ∃ x, a0 = some x ∧ len0 ≤ cap0 ∧ cap0 ≤ maxLen ∧ z0.length = cap0 ∧ (∀ i, i < z0.length → w.cell? (x.add i) = some (.int .u8 (z0.getD i 0))) ∧ ∀ n ∈ z0, (Lit.int .u8 n).wf = true) (y0 : len0 * 1 ≤ 140737488351232) :
  Calls Try.prog 12 #[.slice a0 len0 cap0] w fun e w' => e = .returned (.bool true) ∧ Below w.heap.size w w' := by
 obtain ⟨l0, rfl, hr0, hm0, hw0, hc0⟩ := ReadsInt.ofRowC w0
 obtain ⟨k, h⟩ := P l0 hm0 y0 hw0
 refine (laws_FnGusts.calls k _ _ l0 true w (Kd.C_of_reads (d := (0 : Int)) (h1 := fun _ => rfl) hr0) hc0 h ⟨rfl⟩).mono ?_
 rintro e w' ⟨rfl, hd⟩
 exact ⟨rfl, hd⟩

end Go.Proofs.Ytidibjmckgbpbaa.QFnGusts
