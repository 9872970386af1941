-- Written by a program of this project's session, after the kit's print (a turned copy of its programs). Lean checks it.
import Derived.Test.YtidibjmckgbpbaaQFnWindsx0
import Derived.Test.YtidibjmckgbpbaaQFnWindsx2
import Derived.Test.YtidibjmckgbpbaaQFnWindsx3
import Derived.Test.YtidibjmckgbpbaaQFnWindsx4
import Derived.Test.YtidibjmckgbpbaaQFnWindsx5
import Derived.Test.YtidibjmckgbpbaaQFnWindsx7
namespace Go.Proofs.Ytidibjmckgbpbaa.QFnWinds
open Go.RowKit Go.Proofs.YtidibjmckgbpbaaW.PrintWords Go.Proofs.YtidibjmckgbpbaaW.PrintLast Go.Proofs.YtidibjmckgbpbaaW.PrintMore
attribute [local go_sem] max2_int min2_int max_two min_two max_three min_three max_four min_four   -- for this text's walks alone
set_option linter.unusedVariables false
set_option linter.unusedSimpArgs false

/-! ### laws_FnWinds: function 13 -/
mutual
def laws_FnWinds.j0 : Nat → List Int → List (S55) → Int → Int → Int → Int → Int → Int → Int → Int → Int → List (S55) → Int → Int → Bool → Int → Bool → Option (Bool)
 | 0, _, _, _, _, _, _, _, _, _, _, _, _, _, _, _, _, _ => none
 | k + 1, x0, x3, x4, x5, x6, x7, x11, x12, x17, x18, x19, x23, x24, x25, x26, x27, x170 => if x170 = true then (some false) else (if x27 = 0 then ((impl_WidestWind.f k x23 x24).bind fun bt345 => (if bt345.2.2 = 0 then (if bt345.1 ≥ (wrap64 (-x25)) then (if (x26 != (decide (bt345.2.1 ≤ x25))) = true then (some false) else (laws_FnWinds.j1 k x0 x3 x4 x5 x6 x7 x11 x12 x17 x18 x19)) else (if (x26 != false) = true then (some false) else (laws_FnWinds.j1 k x0 x3 x4 x5 x6 x7 x11 x12 x17 x18 x19))) else (some false))) else (laws_FnWinds.j1 k x0 x3 x4 x5 x6 x7 x11 x12 x17 x18 x19))
def laws_FnWinds.j1 : Nat → List Int → List (S55) → Int → Int → Int → Int → Int → Int → Int → Int → Int → Option (Bool)
 | 0, _, _, _, _, _, _, _, _, _, _, _ => none
 | k + 1, x0, x3, x4, x5, x6, x7, x11, x12, x17, x18, x19 => if x7 = 0 then ((laws_roll.f k x0 502).bind fun bt348 => ((laws_dice_below.f bt348.1 bt348.2.1 bt348.2.2 (wrap64 (x4 + 1))).bind fun bt352 => ((impl_WindAt.f k x3 bt352.1).bind fun bt355 => (if x11 ≤ x5 then (if x6 ≤ x12 then (if bt355.2.2 = 0 then (if x11 ≤ bt355.1 then (if bt355.2.1 ≤ x12 then (if x19 = 5 then (some true) else (if x19 = 0 then (if x5 ≤ x17 then (if x17 ≤ x18 then (if x18 ≤ x6 then (if bt355.1 ≤ x17 then (some (decide (x18 ≤ bt355.2.1))) else (some false)) else (some false)) else (some false)) else (some false)) else (some false))) else (some false)) else (some false)) else (some false)) else (some false)) else (some false))))) else (some true)
end
theorem j0T : ∀ (k : Nat) (a : List Int) (b : List (S55)) (c d e f g h i j l : Int) (m : List (S55)) (n p : Int) (q : Bool) (s : Int), laws_FnWinds.j0 k a b c d e f g h i j l m n p q s true ≠ some true := by
 intro k a b c d e f g h i j l m n p q s
 cases k <;> simp [laws_FnWinds.j0]
def laws_FnWinds.f (k : Nat) (l0 : List Int) : Option (Bool) := (laws_big.f l0).bind fun t311 => (if t311 = true then (some true) else ((spec_DrawWindAt.f k l0).bind fun bt312 => ((impl_WindAt.f k bt312.1 bt312.2).bind fun bt316 => ((spec_WindAt.f k bt312.1 bt312.2).bind fun bt319 => ((impl_WidestWind.f k bt312.1 bt312.2).bind fun bt322 => ((spec_WidestWind.f k bt312.1 bt312.2).bind fun bt325 => ((impl_CommonWind.f k bt312.1 bt312.2).bind fun bt328 => ((spec_CommonWind.f k bt312.1 bt312.2).bind fun bt331 => ((spec_DrawIsCalm.f k l0).bind fun bt334 => ((impl_IsCalm.f k bt334.1 bt334.2.1 bt334.2.2).bind fun bt339 => ((spec_IsCalm.f k bt334.1 bt334.2.1 bt334.2.2).bind fun bt341 => (if bt316.2.2 = bt319.2.2 then (if bt316.1 = bt319.1 then (if bt316.2.1 = bt319.2.1 then (if bt322.2.2 = bt325.2.2 then (if bt322.1 = bt325.1 then (if bt322.2.1 = bt325.2.1 then (if bt328.2.2 = bt331.2.2 then (if bt328.1 = bt331.1 then (if bt328.2.1 = bt331.2.1 then (if bt339.2 = bt341.2 then (if (bt339.1 != bt341.1) = true then (laws_FnWinds.j0 k l0 bt312.1 bt312.2 bt316.1 bt316.2.1 bt316.2.2 bt322.1 bt322.2.1 bt328.1 bt328.2.1 bt328.2.2 bt334.1 bt334.2.1 bt334.2.2 bt339.1 bt339.2 true) else ((impl_IsProfile.f k bt312.1).bind fun t343 => ((spec_IsProfile.f k bt312.1).bind fun t344 => (if (t343 != t344) = true then (laws_FnWinds.j0 k l0 bt312.1 bt312.2 bt316.1 bt316.2.1 bt316.2.2 bt322.1 bt322.2.1 bt328.1 bt328.2.1 bt328.2.2 bt334.1 bt334.2.1 bt334.2.2 bt339.1 bt339.2 true) else (laws_FnWinds.j0 k l0 bt312.1 bt312.2 bt316.1 bt316.2.1 bt316.2.2 bt322.1 bt322.2.1 bt328.1 bt328.2.1 bt328.2.2 bt334.1 bt334.2.1 bt334.2.2 bt339.1 bt339.2 (bt322.2.2 != bt316.2.2)))))) else (laws_FnWinds.j0 k l0 bt312.1 bt312.2 bt316.1 bt316.2.1 bt316.2.2 bt322.1 bt322.2.1 bt328.1 bt328.2.1 bt328.2.2 bt334.1 bt334.2.1 bt334.2.2 bt339.1 bt339.2 true)) else (laws_FnWinds.j0 k l0 bt312.1 bt312.2 bt316.1 bt316.2.1 bt316.2.2 bt322.1 bt322.2.1 bt328.1 bt328.2.1 bt328.2.2 bt334.1 bt334.2.1 bt334.2.2 bt339.1 bt339.2 true)) else (laws_FnWinds.j0 k l0 bt312.1 bt312.2 bt316.1 bt316.2.1 bt316.2.2 bt322.1 bt322.2.1 bt328.1 bt328.2.1 bt328.2.2 bt334.1 bt334.2.1 bt334.2.2 bt339.1 bt339.2 true)) else (laws_FnWinds.j0 k l0 bt312.1 bt312.2 bt316.1 bt316.2.1 bt316.2.2 bt322.1 bt322.2.1 bt328.1 bt328.2.1 bt328.2.2 bt334.1 bt334.2.1 bt334.2.2 bt339.1 bt339.2 true)) else (laws_FnWinds.j0 k l0 bt312.1 bt312.2 bt316.1 bt316.2.1 bt316.2.2 bt322.1 bt322.2.1 bt328.1 bt328.2.1 bt328.2.2 bt334.1 bt334.2.1 bt334.2.2 bt339.1 bt339.2 true)) else (laws_FnWinds.j0 k l0 bt312.1 bt312.2 bt316.1 bt316.2.1 bt316.2.2 bt322.1 bt322.2.1 bt328.1 bt328.2.1 bt328.2.2 bt334.1 bt334.2.1 bt334.2.2 bt339.1 bt339.2 true)) else (laws_FnWinds.j0 k l0 bt312.1 bt312.2 bt316.1 bt316.2.1 bt316.2.2 bt322.1 bt322.2.1 bt328.1 bt328.2.1 bt328.2.2 bt334.1 bt334.2.1 bt334.2.2 bt339.1 bt339.2 true)) else (laws_FnWinds.j0 k l0 bt312.1 bt312.2 bt316.1 bt316.2.1 bt316.2.2 bt322.1 bt322.2.1 bt328.1 bt328.2.1 bt328.2.2 bt334.1 bt334.2.1 bt334.2.2 bt339.1 bt339.2 true)) else (laws_FnWinds.j0 k l0 bt312.1 bt312.2 bt316.1 bt316.2.1 bt316.2.2 bt322.1 bt322.2.1 bt328.1 bt328.2.1 bt328.2.2 bt334.1 bt334.2.1 bt334.2.2 bt339.1 bt339.2 true)) else (laws_FnWinds.j0 k l0 bt312.1 bt312.2 bt316.1 bt316.2.1 bt316.2.2 bt322.1 bt322.2.1 bt328.1 bt328.2.1 bt328.2.2 bt334.1 bt334.2.1 bt334.2.2 bt339.1 bt339.2 true)))))))))))))
theorem laws_FnWinds.mono_l : ∀ k, (∀ y0 y1 y2 y3 y4 y5 y6 y7 y8 y9 y10 y11 y12 y13 y14 y15 y16, LeO (laws_FnWinds.j0 k y0 y1 y2 y3 y4 y5 y6 y7 y8 y9 y10 y11 y12 y13 y14 y15 y16) (laws_FnWinds.j0 (k + 1) y0 y1 y2 y3 y4 y5 y6 y7 y8 y9 y10 y11 y12 y13 y14 y15 y16)) ∧ (∀ y0 y1 y2 y3 y4 y5 y6 y7 y8 y9 y10, LeO (laws_FnWinds.j1 k y0 y1 y2 y3 y4 y5 y6 y7 y8 y9 y10) (laws_FnWinds.j1 (k + 1) y0 y1 y2 y3 y4 y5 y6 y7 y8 y9 y10))
 | 0 => ⟨fun _ _ _ _ _ _ _ _ _ _ _ _ _ _ _ _ _ r h => by simp [laws_FnWinds.j0] at h, fun _ _ _ _ _ _ _ _ _ _ _ r h => by simp [laws_FnWinds.j1] at h⟩
 | k + 1 => by
  obtain ⟨ih0, ih1⟩ := laws_FnWinds.mono_l k
  refine ⟨?_, ?_⟩
  ·
   intro y0 y1 y2 y3 y4 y5 y6 y7 y8 y9 y10 y11 y12 y13 y14 y15 y16
   unfold laws_FnWinds.j0
   repeat' first
   | (with_reducible exact ih0 _ _ _ _ _ _ _ _ _ _ _ _ _ _ _ _ _)
   | (with_reducible exact ih1 _ _ _ _ _ _ _ _ _ _ _)
   | (with_reducible exact impl_CommonWind.mono _ _ _)
   | (with_reducible exact impl_IsCalm.mono _ _ _ _)
   | (with_reducible exact impl_IsProfile.mono _ _)
   | (with_reducible exact impl_WidestWind.mono _ _ _)
   | (with_reducible exact impl_WindAt.mono _ _ _)
   | (with_reducible exact laws_roll.mono _ _ _)
   | (with_reducible exact spec_CommonWind.mono _ _ _)
   | (with_reducible exact spec_DrawIsCalm.mono _ _)
   | (with_reducible exact spec_DrawWindAt.mono _ _)
   | (with_reducible exact spec_IsCalm.mono _ _ _ _)
   | (with_reducible exact spec_IsProfile.mono _ _)
   | (with_reducible exact spec_WidestWind.mono _ _ _)
   | (with_reducible exact spec_WindAt.mono _ _ _)
   | (with_reducible exact LeO.refl _)
   | (with_reducible exact LeO.none _)
   | (with_reducible refine LeO.ite ?_ ?_)
   | (with_reducible refine LeO.bind ?_ (fun _ => ?_))
   | exact ih0 _ _ _ _ _ _ _ _ _ _ _ _ _ _ _ _ _
   | exact ih1 _ _ _ _ _ _ _ _ _ _ _
   | exact impl_CommonWind.mono _ _ _
   | exact impl_IsCalm.mono _ _ _ _
   | exact impl_IsProfile.mono _ _
   | exact impl_WidestWind.mono _ _ _
   | exact impl_WindAt.mono _ _ _
   | exact laws_roll.mono _ _ _
   | exact spec_CommonWind.mono _ _ _
   | exact spec_DrawIsCalm.mono _ _
   | exact spec_DrawWindAt.mono _ _
   | exact spec_IsCalm.mono _ _ _ _
   | exact spec_IsProfile.mono _ _
   | exact spec_WidestWind.mono _ _ _
   | exact spec_WindAt.mono _ _ _
   | exact LeO.none _
   | refine LeO.ite ?_ ?_
   | refine LeO.bind ?_ (fun _ => ?_)
  ·
   intro y0 y1 y2 y3 y4 y5 y6 y7 y8 y9 y10
   unfold laws_FnWinds.j1
   repeat' first
   | (with_reducible exact ih0 _ _ _ _ _ _ _ _ _ _ _ _ _ _ _ _ _)
   | (with_reducible exact ih1 _ _ _ _ _ _ _ _ _ _ _)
   | (with_reducible exact impl_CommonWind.mono _ _ _)
   | (with_reducible exact impl_IsCalm.mono _ _ _ _)
   | (with_reducible exact impl_IsProfile.mono _ _)
   | (with_reducible exact impl_WidestWind.mono _ _ _)
   | (with_reducible exact impl_WindAt.mono _ _ _)
   | (with_reducible exact laws_roll.mono _ _ _)
   | (with_reducible exact spec_CommonWind.mono _ _ _)
   | (with_reducible exact spec_DrawIsCalm.mono _ _)
   | (with_reducible exact spec_DrawWindAt.mono _ _)
   | (with_reducible exact spec_IsCalm.mono _ _ _ _)
   | (with_reducible exact spec_IsProfile.mono _ _)
   | (with_reducible exact spec_WidestWind.mono _ _ _)
   | (with_reducible exact spec_WindAt.mono _ _ _)
   | (with_reducible exact LeO.refl _)
   | (with_reducible exact LeO.none _)
   | (with_reducible refine LeO.ite ?_ ?_)
   | (with_reducible refine LeO.bind ?_ (fun _ => ?_))
   | exact ih0 _ _ _ _ _ _ _ _ _ _ _ _ _ _ _ _ _
   | exact ih1 _ _ _ _ _ _ _ _ _ _ _
   | exact impl_CommonWind.mono _ _ _
   | exact impl_IsCalm.mono _ _ _ _
   | exact impl_IsProfile.mono _ _
   | exact impl_WidestWind.mono _ _ _
   | exact impl_WindAt.mono _ _ _
   | exact laws_roll.mono _ _ _
   | exact spec_CommonWind.mono _ _ _
   | exact spec_DrawIsCalm.mono _ _
   | exact spec_DrawWindAt.mono _ _
   | exact spec_IsCalm.mono _ _ _ _
   | exact spec_IsProfile.mono _ _
   | exact spec_WidestWind.mono _ _ _
   | exact spec_WindAt.mono _ _ _
   | exact LeO.none _
   | refine LeO.ite ?_ ?_
   | refine LeO.bind ?_ (fun _ => ?_)
theorem laws_FnWinds.mono : ∀ a0 k, LeO (laws_FnWinds.f k a0) (laws_FnWinds.f (k + 1) a0) := by
 intro a0 k
 obtain ⟨ih0, ih1⟩ := laws_FnWinds.mono_l k
 unfold laws_FnWinds.f
 repeat' first
   | (with_reducible exact ih0 _ _ _ _ _ _ _ _ _ _ _ _ _ _ _ _ _)
   | (with_reducible exact ih1 _ _ _ _ _ _ _ _ _ _ _)
   | (with_reducible exact impl_CommonWind.mono _ _ _)
   | (with_reducible exact impl_IsCalm.mono _ _ _ _)
   | (with_reducible exact impl_IsProfile.mono _ _)
   | (with_reducible exact impl_WidestWind.mono _ _ _)
   | (with_reducible exact impl_WindAt.mono _ _ _)
   | (with_reducible exact laws_roll.mono _ _ _)
   | (with_reducible exact spec_CommonWind.mono _ _ _)
   | (with_reducible exact spec_DrawIsCalm.mono _ _)
   | (with_reducible exact spec_DrawWindAt.mono _ _)
   | (with_reducible exact spec_IsCalm.mono _ _ _ _)
   | (with_reducible exact spec_IsProfile.mono _ _)
   | (with_reducible exact spec_WidestWind.mono _ _ _)
   | (with_reducible exact spec_WindAt.mono _ _ _)
   | (with_reducible exact LeO.refl _)
   | (with_reducible exact LeO.none _)
   | (with_reducible refine LeO.ite ?_ ?_)
   | (with_reducible refine LeO.bind ?_ (fun _ => ?_))
   | exact ih0 _ _ _ _ _ _ _ _ _ _ _ _ _ _ _ _ _
   | exact ih1 _ _ _ _ _ _ _ _ _ _ _
   | exact impl_CommonWind.mono _ _ _
   | exact impl_IsCalm.mono _ _ _ _
   | exact impl_IsProfile.mono _ _
   | exact impl_WidestWind.mono _ _ _
   | exact impl_WindAt.mono _ _ _
   | exact laws_roll.mono _ _ _
   | exact spec_CommonWind.mono _ _ _
   | exact spec_DrawIsCalm.mono _ _
   | exact spec_DrawWindAt.mono _ _
   | exact spec_IsCalm.mono _ _ _ _
   | exact spec_IsProfile.mono _ _
   | exact spec_WidestWind.mono _ _ _
   | exact spec_WindAt.mono _ _ _
   | exact LeO.none _
   | refine LeO.ite ?_ ?_
   | refine LeO.bind ?_ (fun _ => ?_)
set_option maxHeartbeats 8000000 in
set_option maxRecDepth 100000 in
theorem laws_FnWinds.calls (k : Nat) (A0 : Option Addr) (c0 : Nat) (l0 : List Int) (r : Bool) (w : World) (hr0 : Kd.C (Kd.int .u8) w A0 l0.length l0) (hc0 : l0.length ≤ c0) (h : laws_FnWinds.f k l0 = some r) (hr_ : Aside0 (r = true)) :
  Calls Try.prog 13 #[.slice A0 l0.length c0] w fun e w' => e = .returned (.bool r) ∧ Below w.heap.size w w' := by
 have HR0 := Aside0.mk hr0
 have HC0 := Aside0.mk hc0
 clear hr0 hc0
 have HB := Aside0.mk (Below.refl w.heap.size w)
 have H : ((laws_big.f l0).bind fun t311 => (if t311 = true then (some true) else ((spec_DrawWindAt.f k l0).bind fun bt312 => ((impl_WindAt.f k bt312.1 bt312.2).bind fun bt316 => ((spec_WindAt.f k bt312.1 bt312.2).bind fun bt319 => ((impl_WidestWind.f k bt312.1 bt312.2).bind fun bt322 => ((spec_WidestWind.f k bt312.1 bt312.2).bind fun bt325 => ((impl_CommonWind.f k bt312.1 bt312.2).bind fun bt328 => ((spec_CommonWind.f k bt312.1 bt312.2).bind fun bt331 => ((spec_DrawIsCalm.f k l0).bind fun bt334 => ((impl_IsCalm.f k bt334.1 bt334.2.1 bt334.2.2).bind fun bt339 => ((spec_IsCalm.f k bt334.1 bt334.2.1 bt334.2.2).bind fun bt341 => (if bt316.2.2 = bt319.2.2 then (if bt316.1 = bt319.1 then (if bt316.2.1 = bt319.2.1 then (if bt322.2.2 = bt325.2.2 then (if bt322.1 = bt325.1 then (if bt322.2.1 = bt325.2.1 then (if bt328.2.2 = bt331.2.2 then (if bt328.1 = bt331.1 then (if bt328.2.1 = bt331.2.1 then (if bt339.2 = bt341.2 then (if (bt339.1 != bt341.1) = true then (laws_FnWinds.j0 k l0 bt312.1 bt312.2 bt316.1 bt316.2.1 bt316.2.2 bt322.1 bt322.2.1 bt328.1 bt328.2.1 bt328.2.2 bt334.1 bt334.2.1 bt334.2.2 bt339.1 bt339.2 true) else ((impl_IsProfile.f k bt312.1).bind fun t343 => ((spec_IsProfile.f k bt312.1).bind fun t344 => (if (t343 != t344) = true then (laws_FnWinds.j0 k l0 bt312.1 bt312.2 bt316.1 bt316.2.1 bt316.2.2 bt322.1 bt322.2.1 bt328.1 bt328.2.1 bt328.2.2 bt334.1 bt334.2.1 bt334.2.2 bt339.1 bt339.2 true) else (laws_FnWinds.j0 k l0 bt312.1 bt312.2 bt316.1 bt316.2.1 bt316.2.2 bt322.1 bt322.2.1 bt328.1 bt328.2.1 bt328.2.2 bt334.1 bt334.2.1 bt334.2.2 bt339.1 bt339.2 (bt322.2.2 != bt316.2.2)))))) else (laws_FnWinds.j0 k l0 bt312.1 bt312.2 bt316.1 bt316.2.1 bt316.2.2 bt322.1 bt322.2.1 bt328.1 bt328.2.1 bt328.2.2 bt334.1 bt334.2.1 bt334.2.2 bt339.1 bt339.2 true)) else (laws_FnWinds.j0 k l0 bt312.1 bt312.2 bt316.1 bt316.2.1 bt316.2.2 bt322.1 bt322.2.1 bt328.1 bt328.2.1 bt328.2.2 bt334.1 bt334.2.1 bt334.2.2 bt339.1 bt339.2 true)) else (laws_FnWinds.j0 k l0 bt312.1 bt312.2 bt316.1 bt316.2.1 bt316.2.2 bt322.1 bt322.2.1 bt328.1 bt328.2.1 bt328.2.2 bt334.1 bt334.2.1 bt334.2.2 bt339.1 bt339.2 true)) else (laws_FnWinds.j0 k l0 bt312.1 bt312.2 bt316.1 bt316.2.1 bt316.2.2 bt322.1 bt322.2.1 bt328.1 bt328.2.1 bt328.2.2 bt334.1 bt334.2.1 bt334.2.2 bt339.1 bt339.2 true)) else (laws_FnWinds.j0 k l0 bt312.1 bt312.2 bt316.1 bt316.2.1 bt316.2.2 bt322.1 bt322.2.1 bt328.1 bt328.2.1 bt328.2.2 bt334.1 bt334.2.1 bt334.2.2 bt339.1 bt339.2 true)) else (laws_FnWinds.j0 k l0 bt312.1 bt312.2 bt316.1 bt316.2.1 bt316.2.2 bt322.1 bt322.2.1 bt328.1 bt328.2.1 bt328.2.2 bt334.1 bt334.2.1 bt334.2.2 bt339.1 bt339.2 true)) else (laws_FnWinds.j0 k l0 bt312.1 bt312.2 bt316.1 bt316.2.1 bt316.2.2 bt322.1 bt322.2.1 bt328.1 bt328.2.1 bt328.2.2 bt334.1 bt334.2.1 bt334.2.2 bt339.1 bt339.2 true)) else (laws_FnWinds.j0 k l0 bt312.1 bt312.2 bt316.1 bt316.2.1 bt316.2.2 bt322.1 bt322.2.1 bt328.1 bt328.2.1 bt328.2.2 bt334.1 bt334.2.1 bt334.2.2 bt339.1 bt339.2 true)) else (laws_FnWinds.j0 k l0 bt312.1 bt312.2 bt316.1 bt316.2.1 bt316.2.2 bt322.1 bt322.2.1 bt328.1 bt328.2.1 bt328.2.2 bt334.1 bt334.2.1 bt334.2.2 bt339.1 bt339.2 true)) else (laws_FnWinds.j0 k l0 bt312.1 bt312.2 bt316.1 bt316.2.1 bt316.2.2 bt322.1 bt322.2.1 bt328.1 bt328.2.1 bt328.2.2 bt334.1 bt334.2.1 bt334.2.2 bt339.1 bt339.2 true)))))))))))))) = some r := h
 clear h
 replace H := Option.bind_eq_some_iff.mp H
 obtain ⟨t311, A20, H⟩ := H
 replace H : (if t311 = true then (some true) else ((spec_DrawWindAt.f k l0).bind fun bt312 => ((impl_WindAt.f k bt312.1 bt312.2).bind fun bt316 => ((spec_WindAt.f k bt312.1 bt312.2).bind fun bt319 => ((impl_WidestWind.f k bt312.1 bt312.2).bind fun bt322 => ((spec_WidestWind.f k bt312.1 bt312.2).bind fun bt325 => ((impl_CommonWind.f k bt312.1 bt312.2).bind fun bt328 => ((spec_CommonWind.f k bt312.1 bt312.2).bind fun bt331 => ((spec_DrawIsCalm.f k l0).bind fun bt334 => ((impl_IsCalm.f k bt334.1 bt334.2.1 bt334.2.2).bind fun bt339 => ((spec_IsCalm.f k bt334.1 bt334.2.1 bt334.2.2).bind fun bt341 => (if bt316.2.2 = bt319.2.2 then (if bt316.1 = bt319.1 then (if bt316.2.1 = bt319.2.1 then (if bt322.2.2 = bt325.2.2 then (if bt322.1 = bt325.1 then (if bt322.2.1 = bt325.2.1 then (if bt328.2.2 = bt331.2.2 then (if bt328.1 = bt331.1 then (if bt328.2.1 = bt331.2.1 then (if bt339.2 = bt341.2 then (if (bt339.1 != bt341.1) = true then (laws_FnWinds.j0 k l0 bt312.1 bt312.2 bt316.1 bt316.2.1 bt316.2.2 bt322.1 bt322.2.1 bt328.1 bt328.2.1 bt328.2.2 bt334.1 bt334.2.1 bt334.2.2 bt339.1 bt339.2 true) else ((impl_IsProfile.f k bt312.1).bind fun t343 => ((spec_IsProfile.f k bt312.1).bind fun t344 => (if (t343 != t344) = true then (laws_FnWinds.j0 k l0 bt312.1 bt312.2 bt316.1 bt316.2.1 bt316.2.2 bt322.1 bt322.2.1 bt328.1 bt328.2.1 bt328.2.2 bt334.1 bt334.2.1 bt334.2.2 bt339.1 bt339.2 true) else (laws_FnWinds.j0 k l0 bt312.1 bt312.2 bt316.1 bt316.2.1 bt316.2.2 bt322.1 bt322.2.1 bt328.1 bt328.2.1 bt328.2.2 bt334.1 bt334.2.1 bt334.2.2 bt339.1 bt339.2 (bt322.2.2 != bt316.2.2)))))) else (laws_FnWinds.j0 k l0 bt312.1 bt312.2 bt316.1 bt316.2.1 bt316.2.2 bt322.1 bt322.2.1 bt328.1 bt328.2.1 bt328.2.2 bt334.1 bt334.2.1 bt334.2.2 bt339.1 bt339.2 true)) else (laws_FnWinds.j0 k l0 bt312.1 bt312.2 bt316.1 bt316.2.1 bt316.2.2 bt322.1 bt322.2.1 bt328.1 bt328.2.1 bt328.2.2 bt334.1 bt334.2.1 bt334.2.2 bt339.1 bt339.2 true)) else (laws_FnWinds.j0 k l0 bt312.1 bt312.2 bt316.1 bt316.2.1 bt316.2.2 bt322.1 bt322.2.1 bt328.1 bt328.2.1 bt328.2.2 bt334.1 bt334.2.1 bt334.2.2 bt339.1 bt339.2 true)) else (laws_FnWinds.j0 k l0 bt312.1 bt312.2 bt316.1 bt316.2.1 bt316.2.2 bt322.1 bt322.2.1 bt328.1 bt328.2.1 bt328.2.2 bt334.1 bt334.2.1 bt334.2.2 bt339.1 bt339.2 true)) else (laws_FnWinds.j0 k l0 bt312.1 bt312.2 bt316.1 bt316.2.1 bt316.2.2 bt322.1 bt322.2.1 bt328.1 bt328.2.1 bt328.2.2 bt334.1 bt334.2.1 bt334.2.2 bt339.1 bt339.2 true)) else (laws_FnWinds.j0 k l0 bt312.1 bt312.2 bt316.1 bt316.2.1 bt316.2.2 bt322.1 bt322.2.1 bt328.1 bt328.2.1 bt328.2.2 bt334.1 bt334.2.1 bt334.2.2 bt339.1 bt339.2 true)) else (laws_FnWinds.j0 k l0 bt312.1 bt312.2 bt316.1 bt316.2.1 bt316.2.2 bt322.1 bt322.2.1 bt328.1 bt328.2.1 bt328.2.2 bt334.1 bt334.2.1 bt334.2.2 bt339.1 bt339.2 true)) else (laws_FnWinds.j0 k l0 bt312.1 bt312.2 bt316.1 bt316.2.1 bt316.2.2 bt322.1 bt322.2.1 bt328.1 bt328.2.1 bt328.2.2 bt334.1 bt334.2.1 bt334.2.2 bt339.1 bt339.2 true)) else (laws_FnWinds.j0 k l0 bt312.1 bt312.2 bt316.1 bt316.2.1 bt316.2.2 bt322.1 bt322.2.1 bt328.1 bt328.2.1 bt328.2.2 bt334.1 bt334.2.1 bt334.2.2 bt339.1 bt339.2 true)) else (laws_FnWinds.j0 k l0 bt312.1 bt312.2 bt316.1 bt316.2.1 bt316.2.2 bt322.1 bt322.2.1 bt328.1 bt328.2.1 bt328.2.2 bt334.1 bt334.2.1 bt334.2.2 bt339.1 bt339.2 true))))))))))))) = some r := H
 have A2 := Aside0.mk A20
 clear A20
 by_cases c3 : t311 = true
 ·
  subst c3
  have H1 : (some true) = some r := by rw [if_pos rfl] at H; exact H
  clear H
  have H := H1
  clear H1
  obtain rfl := Option.some.inj H
  simp only [Option.some.injEq, Prod.mk.injEq] at H
  obtain ⟨rfl⟩ := H
  go_enter Try.func13, Try.ntmps13
  go_wp2_with (first | ((with_reducible refine gate_callee (f := 38) rfl ?_); refine goesL_ (some 38) rfl rfl Try.func38 (by kernel_rfl) rfl #[.slice A0 l0.length c0] rfl (by (try simp only [List.map_toArray, List.map_cons, List.map_nil]); first | done | rfl | (go_simp; done) | simp) ?_; (with_reducible refine (laws_big.calls _ _ l0 true _ ?side1 ?side2 A2.out).mono ?_); (case side1 => repeat (first | exact HR0.out | (with_reducible first | apply cA | apply cN | apply cD))); (case side2 => exact HC0.out); rintro e w' ⟨rfl, ⟨nd, rfl⟩⟩; refine ⟨_, rfl, ?_⟩))
  go_ret
  exact ⟨by first | rfl | (simp [errW_none, errW_some] <;> rfl) | (simp [*, errW_none, errW_some] <;> rfl), by repeat (first | (with_reducible first | exact HB.out | apply lA | apply lN | apply lD) | exact HB.out)⟩
 ·
  replace c3 := Bool.eq_false_iff.mpr c3
  subst c3
  have H1 : ((spec_DrawWindAt.f k l0).bind fun bt312 => ((impl_WindAt.f k bt312.1 bt312.2).bind fun bt316 => ((spec_WindAt.f k bt312.1 bt312.2).bind fun bt319 => ((impl_WidestWind.f k bt312.1 bt312.2).bind fun bt322 => ((spec_WidestWind.f k bt312.1 bt312.2).bind fun bt325 => ((impl_CommonWind.f k bt312.1 bt312.2).bind fun bt328 => ((spec_CommonWind.f k bt312.1 bt312.2).bind fun bt331 => ((spec_DrawIsCalm.f k l0).bind fun bt334 => ((impl_IsCalm.f k bt334.1 bt334.2.1 bt334.2.2).bind fun bt339 => ((spec_IsCalm.f k bt334.1 bt334.2.1 bt334.2.2).bind fun bt341 => (if bt316.2.2 = bt319.2.2 then (if bt316.1 = bt319.1 then (if bt316.2.1 = bt319.2.1 then (if bt322.2.2 = bt325.2.2 then (if bt322.1 = bt325.1 then (if bt322.2.1 = bt325.2.1 then (if bt328.2.2 = bt331.2.2 then (if bt328.1 = bt331.1 then (if bt328.2.1 = bt331.2.1 then (if bt339.2 = bt341.2 then (if (bt339.1 != bt341.1) = true then (laws_FnWinds.j0 k l0 bt312.1 bt312.2 bt316.1 bt316.2.1 bt316.2.2 bt322.1 bt322.2.1 bt328.1 bt328.2.1 bt328.2.2 bt334.1 bt334.2.1 bt334.2.2 bt339.1 bt339.2 true) else ((impl_IsProfile.f k bt312.1).bind fun t343 => ((spec_IsProfile.f k bt312.1).bind fun t344 => (if (t343 != t344) = true then (laws_FnWinds.j0 k l0 bt312.1 bt312.2 bt316.1 bt316.2.1 bt316.2.2 bt322.1 bt322.2.1 bt328.1 bt328.2.1 bt328.2.2 bt334.1 bt334.2.1 bt334.2.2 bt339.1 bt339.2 true) else (laws_FnWinds.j0 k l0 bt312.1 bt312.2 bt316.1 bt316.2.1 bt316.2.2 bt322.1 bt322.2.1 bt328.1 bt328.2.1 bt328.2.2 bt334.1 bt334.2.1 bt334.2.2 bt339.1 bt339.2 (bt322.2.2 != bt316.2.2)))))) else (laws_FnWinds.j0 k l0 bt312.1 bt312.2 bt316.1 bt316.2.1 bt316.2.2 bt322.1 bt322.2.1 bt328.1 bt328.2.1 bt328.2.2 bt334.1 bt334.2.1 bt334.2.2 bt339.1 bt339.2 true)) else (laws_FnWinds.j0 k l0 bt312.1 bt312.2 bt316.1 bt316.2.1 bt316.2.2 bt322.1 bt322.2.1 bt328.1 bt328.2.1 bt328.2.2 bt334.1 bt334.2.1 bt334.2.2 bt339.1 bt339.2 true)) else (laws_FnWinds.j0 k l0 bt312.1 bt312.2 bt316.1 bt316.2.1 bt316.2.2 bt322.1 bt322.2.1 bt328.1 bt328.2.1 bt328.2.2 bt334.1 bt334.2.1 bt334.2.2 bt339.1 bt339.2 true)) else (laws_FnWinds.j0 k l0 bt312.1 bt312.2 bt316.1 bt316.2.1 bt316.2.2 bt322.1 bt322.2.1 bt328.1 bt328.2.1 bt328.2.2 bt334.1 bt334.2.1 bt334.2.2 bt339.1 bt339.2 true)) else (laws_FnWinds.j0 k l0 bt312.1 bt312.2 bt316.1 bt316.2.1 bt316.2.2 bt322.1 bt322.2.1 bt328.1 bt328.2.1 bt328.2.2 bt334.1 bt334.2.1 bt334.2.2 bt339.1 bt339.2 true)) else (laws_FnWinds.j0 k l0 bt312.1 bt312.2 bt316.1 bt316.2.1 bt316.2.2 bt322.1 bt322.2.1 bt328.1 bt328.2.1 bt328.2.2 bt334.1 bt334.2.1 bt334.2.2 bt339.1 bt339.2 true)) else (laws_FnWinds.j0 k l0 bt312.1 bt312.2 bt316.1 bt316.2.1 bt316.2.2 bt322.1 bt322.2.1 bt328.1 bt328.2.1 bt328.2.2 bt334.1 bt334.2.1 bt334.2.2 bt339.1 bt339.2 true)) else (laws_FnWinds.j0 k l0 bt312.1 bt312.2 bt316.1 bt316.2.1 bt316.2.2 bt322.1 bt322.2.1 bt328.1 bt328.2.1 bt328.2.2 bt334.1 bt334.2.1 bt334.2.2 bt339.1 bt339.2 true)) else (laws_FnWinds.j0 k l0 bt312.1 bt312.2 bt316.1 bt316.2.1 bt316.2.2 bt322.1 bt322.2.1 bt328.1 bt328.2.1 bt328.2.2 bt334.1 bt334.2.1 bt334.2.2 bt339.1 bt339.2 true)) else (laws_FnWinds.j0 k l0 bt312.1 bt312.2 bt316.1 bt316.2.1 bt316.2.2 bt322.1 bt322.2.1 bt328.1 bt328.2.1 bt328.2.2 bt334.1 bt334.2.1 bt334.2.2 bt339.1 bt339.2 true)))))))))))) = some r := by rw [if_neg (show ¬ (false = true) by decide)] at H; exact H
  clear H
  have H := H1
  clear H1
  replace H := Option.bind_eq_some_iff.mp H
  obtain ⟨⟨t312, t313⟩, A40, H⟩ := H
  replace H : ((impl_WindAt.f k t312 t313).bind fun bt316 => ((spec_WindAt.f k t312 t313).bind fun bt319 => ((impl_WidestWind.f k t312 t313).bind fun bt322 => ((spec_WidestWind.f k t312 t313).bind fun bt325 => ((impl_CommonWind.f k t312 t313).bind fun bt328 => ((spec_CommonWind.f k t312 t313).bind fun bt331 => ((spec_DrawIsCalm.f k l0).bind fun bt334 => ((impl_IsCalm.f k bt334.1 bt334.2.1 bt334.2.2).bind fun bt339 => ((spec_IsCalm.f k bt334.1 bt334.2.1 bt334.2.2).bind fun bt341 => (if bt316.2.2 = bt319.2.2 then (if bt316.1 = bt319.1 then (if bt316.2.1 = bt319.2.1 then (if bt322.2.2 = bt325.2.2 then (if bt322.1 = bt325.1 then (if bt322.2.1 = bt325.2.1 then (if bt328.2.2 = bt331.2.2 then (if bt328.1 = bt331.1 then (if bt328.2.1 = bt331.2.1 then (if bt339.2 = bt341.2 then (if (bt339.1 != bt341.1) = true then (laws_FnWinds.j0 k l0 t312 t313 bt316.1 bt316.2.1 bt316.2.2 bt322.1 bt322.2.1 bt328.1 bt328.2.1 bt328.2.2 bt334.1 bt334.2.1 bt334.2.2 bt339.1 bt339.2 true) else ((impl_IsProfile.f k t312).bind fun t343 => ((spec_IsProfile.f k t312).bind fun t344 => (if (t343 != t344) = true then (laws_FnWinds.j0 k l0 t312 t313 bt316.1 bt316.2.1 bt316.2.2 bt322.1 bt322.2.1 bt328.1 bt328.2.1 bt328.2.2 bt334.1 bt334.2.1 bt334.2.2 bt339.1 bt339.2 true) else (laws_FnWinds.j0 k l0 t312 t313 bt316.1 bt316.2.1 bt316.2.2 bt322.1 bt322.2.1 bt328.1 bt328.2.1 bt328.2.2 bt334.1 bt334.2.1 bt334.2.2 bt339.1 bt339.2 (bt322.2.2 != bt316.2.2)))))) else (laws_FnWinds.j0 k l0 t312 t313 bt316.1 bt316.2.1 bt316.2.2 bt322.1 bt322.2.1 bt328.1 bt328.2.1 bt328.2.2 bt334.1 bt334.2.1 bt334.2.2 bt339.1 bt339.2 true)) else (laws_FnWinds.j0 k l0 t312 t313 bt316.1 bt316.2.1 bt316.2.2 bt322.1 bt322.2.1 bt328.1 bt328.2.1 bt328.2.2 bt334.1 bt334.2.1 bt334.2.2 bt339.1 bt339.2 true)) else (laws_FnWinds.j0 k l0 t312 t313 bt316.1 bt316.2.1 bt316.2.2 bt322.1 bt322.2.1 bt328.1 bt328.2.1 bt328.2.2 bt334.1 bt334.2.1 bt334.2.2 bt339.1 bt339.2 true)) else (laws_FnWinds.j0 k l0 t312 t313 bt316.1 bt316.2.1 bt316.2.2 bt322.1 bt322.2.1 bt328.1 bt328.2.1 bt328.2.2 bt334.1 bt334.2.1 bt334.2.2 bt339.1 bt339.2 true)) else (laws_FnWinds.j0 k l0 t312 t313 bt316.1 bt316.2.1 bt316.2.2 bt322.1 bt322.2.1 bt328.1 bt328.2.1 bt328.2.2 bt334.1 bt334.2.1 bt334.2.2 bt339.1 bt339.2 true)) else (laws_FnWinds.j0 k l0 t312 t313 bt316.1 bt316.2.1 bt316.2.2 bt322.1 bt322.2.1 bt328.1 bt328.2.1 bt328.2.2 bt334.1 bt334.2.1 bt334.2.2 bt339.1 bt339.2 true)) else (laws_FnWinds.j0 k l0 t312 t313 bt316.1 bt316.2.1 bt316.2.2 bt322.1 bt322.2.1 bt328.1 bt328.2.1 bt328.2.2 bt334.1 bt334.2.1 bt334.2.2 bt339.1 bt339.2 true)) else (laws_FnWinds.j0 k l0 t312 t313 bt316.1 bt316.2.1 bt316.2.2 bt322.1 bt322.2.1 bt328.1 bt328.2.1 bt328.2.2 bt334.1 bt334.2.1 bt334.2.2 bt339.1 bt339.2 true)) else (laws_FnWinds.j0 k l0 t312 t313 bt316.1 bt316.2.1 bt316.2.2 bt322.1 bt322.2.1 bt328.1 bt328.2.1 bt328.2.2 bt334.1 bt334.2.1 bt334.2.2 bt339.1 bt339.2 true)) else (laws_FnWinds.j0 k l0 t312 t313 bt316.1 bt316.2.1 bt316.2.2 bt322.1 bt322.2.1 bt328.1 bt328.2.1 bt328.2.2 bt334.1 bt334.2.1 bt334.2.2 bt339.1 bt339.2 true))))))))))) = some r := H
  have A4 := Aside0.mk A40
  clear A40
  replace H := Option.bind_eq_some_iff.mp H
  obtain ⟨⟨t316, t317, t318⟩, A50, H⟩ := H
  replace H : ((spec_WindAt.f k t312 t313).bind fun bt319 => ((impl_WidestWind.f k t312 t313).bind fun bt322 => ((spec_WidestWind.f k t312 t313).bind fun bt325 => ((impl_CommonWind.f k t312 t313).bind fun bt328 => ((spec_CommonWind.f k t312 t313).bind fun bt331 => ((spec_DrawIsCalm.f k l0).bind fun bt334 => ((impl_IsCalm.f k bt334.1 bt334.2.1 bt334.2.2).bind fun bt339 => ((spec_IsCalm.f k bt334.1 bt334.2.1 bt334.2.2).bind fun bt341 => (if t318 = bt319.2.2 then (if t316 = bt319.1 then (if t317 = bt319.2.1 then (if bt322.2.2 = bt325.2.2 then (if bt322.1 = bt325.1 then (if bt322.2.1 = bt325.2.1 then (if bt328.2.2 = bt331.2.2 then (if bt328.1 = bt331.1 then (if bt328.2.1 = bt331.2.1 then (if bt339.2 = bt341.2 then (if (bt339.1 != bt341.1) = true then (laws_FnWinds.j0 k l0 t312 t313 t316 t317 t318 bt322.1 bt322.2.1 bt328.1 bt328.2.1 bt328.2.2 bt334.1 bt334.2.1 bt334.2.2 bt339.1 bt339.2 true) else ((impl_IsProfile.f k t312).bind fun t343 => ((spec_IsProfile.f k t312).bind fun t344 => (if (t343 != t344) = true then (laws_FnWinds.j0 k l0 t312 t313 t316 t317 t318 bt322.1 bt322.2.1 bt328.1 bt328.2.1 bt328.2.2 bt334.1 bt334.2.1 bt334.2.2 bt339.1 bt339.2 true) else (laws_FnWinds.j0 k l0 t312 t313 t316 t317 t318 bt322.1 bt322.2.1 bt328.1 bt328.2.1 bt328.2.2 bt334.1 bt334.2.1 bt334.2.2 bt339.1 bt339.2 (bt322.2.2 != t318)))))) else (laws_FnWinds.j0 k l0 t312 t313 t316 t317 t318 bt322.1 bt322.2.1 bt328.1 bt328.2.1 bt328.2.2 bt334.1 bt334.2.1 bt334.2.2 bt339.1 bt339.2 true)) else (laws_FnWinds.j0 k l0 t312 t313 t316 t317 t318 bt322.1 bt322.2.1 bt328.1 bt328.2.1 bt328.2.2 bt334.1 bt334.2.1 bt334.2.2 bt339.1 bt339.2 true)) else (laws_FnWinds.j0 k l0 t312 t313 t316 t317 t318 bt322.1 bt322.2.1 bt328.1 bt328.2.1 bt328.2.2 bt334.1 bt334.2.1 bt334.2.2 bt339.1 bt339.2 true)) else (laws_FnWinds.j0 k l0 t312 t313 t316 t317 t318 bt322.1 bt322.2.1 bt328.1 bt328.2.1 bt328.2.2 bt334.1 bt334.2.1 bt334.2.2 bt339.1 bt339.2 true)) else (laws_FnWinds.j0 k l0 t312 t313 t316 t317 t318 bt322.1 bt322.2.1 bt328.1 bt328.2.1 bt328.2.2 bt334.1 bt334.2.1 bt334.2.2 bt339.1 bt339.2 true)) else (laws_FnWinds.j0 k l0 t312 t313 t316 t317 t318 bt322.1 bt322.2.1 bt328.1 bt328.2.1 bt328.2.2 bt334.1 bt334.2.1 bt334.2.2 bt339.1 bt339.2 true)) else (laws_FnWinds.j0 k l0 t312 t313 t316 t317 t318 bt322.1 bt322.2.1 bt328.1 bt328.2.1 bt328.2.2 bt334.1 bt334.2.1 bt334.2.2 bt339.1 bt339.2 true)) else (laws_FnWinds.j0 k l0 t312 t313 t316 t317 t318 bt322.1 bt322.2.1 bt328.1 bt328.2.1 bt328.2.2 bt334.1 bt334.2.1 bt334.2.2 bt339.1 bt339.2 true)) else (laws_FnWinds.j0 k l0 t312 t313 t316 t317 t318 bt322.1 bt322.2.1 bt328.1 bt328.2.1 bt328.2.2 bt334.1 bt334.2.1 bt334.2.2 bt339.1 bt339.2 true)) else (laws_FnWinds.j0 k l0 t312 t313 t316 t317 t318 bt322.1 bt322.2.1 bt328.1 bt328.2.1 bt328.2.2 bt334.1 bt334.2.1 bt334.2.2 bt339.1 bt339.2 true)))))))))) = some r := H
  have A5 := Aside0.mk A50
  clear A50
  replace H := Option.bind_eq_some_iff.mp H
  obtain ⟨⟨t319, t320, t321⟩, A60, H⟩ := H
  replace H : ((impl_WidestWind.f k t312 t313).bind fun bt322 => ((spec_WidestWind.f k t312 t313).bind fun bt325 => ((impl_CommonWind.f k t312 t313).bind fun bt328 => ((spec_CommonWind.f k t312 t313).bind fun bt331 => ((spec_DrawIsCalm.f k l0).bind fun bt334 => ((impl_IsCalm.f k bt334.1 bt334.2.1 bt334.2.2).bind fun bt339 => ((spec_IsCalm.f k bt334.1 bt334.2.1 bt334.2.2).bind fun bt341 => (if t318 = t321 then (if t316 = t319 then (if t317 = t320 then (if bt322.2.2 = bt325.2.2 then (if bt322.1 = bt325.1 then (if bt322.2.1 = bt325.2.1 then (if bt328.2.2 = bt331.2.2 then (if bt328.1 = bt331.1 then (if bt328.2.1 = bt331.2.1 then (if bt339.2 = bt341.2 then (if (bt339.1 != bt341.1) = true then (laws_FnWinds.j0 k l0 t312 t313 t316 t317 t318 bt322.1 bt322.2.1 bt328.1 bt328.2.1 bt328.2.2 bt334.1 bt334.2.1 bt334.2.2 bt339.1 bt339.2 true) else ((impl_IsProfile.f k t312).bind fun t343 => ((spec_IsProfile.f k t312).bind fun t344 => (if (t343 != t344) = true then (laws_FnWinds.j0 k l0 t312 t313 t316 t317 t318 bt322.1 bt322.2.1 bt328.1 bt328.2.1 bt328.2.2 bt334.1 bt334.2.1 bt334.2.2 bt339.1 bt339.2 true) else (laws_FnWinds.j0 k l0 t312 t313 t316 t317 t318 bt322.1 bt322.2.1 bt328.1 bt328.2.1 bt328.2.2 bt334.1 bt334.2.1 bt334.2.2 bt339.1 bt339.2 (bt322.2.2 != t318)))))) else (laws_FnWinds.j0 k l0 t312 t313 t316 t317 t318 bt322.1 bt322.2.1 bt328.1 bt328.2.1 bt328.2.2 bt334.1 bt334.2.1 bt334.2.2 bt339.1 bt339.2 true)) else (laws_FnWinds.j0 k l0 t312 t313 t316 t317 t318 bt322.1 bt322.2.1 bt328.1 bt328.2.1 bt328.2.2 bt334.1 bt334.2.1 bt334.2.2 bt339.1 bt339.2 true)) else (laws_FnWinds.j0 k l0 t312 t313 t316 t317 t318 bt322.1 bt322.2.1 bt328.1 bt328.2.1 bt328.2.2 bt334.1 bt334.2.1 bt334.2.2 bt339.1 bt339.2 true)) else (laws_FnWinds.j0 k l0 t312 t313 t316 t317 t318 bt322.1 bt322.2.1 bt328.1 bt328.2.1 bt328.2.2 bt334.1 bt334.2.1 bt334.2.2 bt339.1 bt339.2 true)) else (laws_FnWinds.j0 k l0 t312 t313 t316 t317 t318 bt322.1 bt322.2.1 bt328.1 bt328.2.1 bt328.2.2 bt334.1 bt334.2.1 bt334.2.2 bt339.1 bt339.2 true)) else (laws_FnWinds.j0 k l0 t312 t313 t316 t317 t318 bt322.1 bt322.2.1 bt328.1 bt328.2.1 bt328.2.2 bt334.1 bt334.2.1 bt334.2.2 bt339.1 bt339.2 true)) else (laws_FnWinds.j0 k l0 t312 t313 t316 t317 t318 bt322.1 bt322.2.1 bt328.1 bt328.2.1 bt328.2.2 bt334.1 bt334.2.1 bt334.2.2 bt339.1 bt339.2 true)) else (laws_FnWinds.j0 k l0 t312 t313 t316 t317 t318 bt322.1 bt322.2.1 bt328.1 bt328.2.1 bt328.2.2 bt334.1 bt334.2.1 bt334.2.2 bt339.1 bt339.2 true)) else (laws_FnWinds.j0 k l0 t312 t313 t316 t317 t318 bt322.1 bt322.2.1 bt328.1 bt328.2.1 bt328.2.2 bt334.1 bt334.2.1 bt334.2.2 bt339.1 bt339.2 true)) else (laws_FnWinds.j0 k l0 t312 t313 t316 t317 t318 bt322.1 bt322.2.1 bt328.1 bt328.2.1 bt328.2.2 bt334.1 bt334.2.1 bt334.2.2 bt339.1 bt339.2 true))))))))) = some r := H
  have A6 := Aside0.mk A60
  clear A60
  replace H := Option.bind_eq_some_iff.mp H
  obtain ⟨⟨t322, t323, t324⟩, A70, H⟩ := H
  replace H : ((spec_WidestWind.f k t312 t313).bind fun bt325 => ((impl_CommonWind.f k t312 t313).bind fun bt328 => ((spec_CommonWind.f k t312 t313).bind fun bt331 => ((spec_DrawIsCalm.f k l0).bind fun bt334 => ((impl_IsCalm.f k bt334.1 bt334.2.1 bt334.2.2).bind fun bt339 => ((spec_IsCalm.f k bt334.1 bt334.2.1 bt334.2.2).bind fun bt341 => (if t318 = t321 then (if t316 = t319 then (if t317 = t320 then (if t324 = bt325.2.2 then (if t322 = bt325.1 then (if t323 = bt325.2.1 then (if bt328.2.2 = bt331.2.2 then (if bt328.1 = bt331.1 then (if bt328.2.1 = bt331.2.1 then (if bt339.2 = bt341.2 then (if (bt339.1 != bt341.1) = true then (laws_FnWinds.j0 k l0 t312 t313 t316 t317 t318 t322 t323 bt328.1 bt328.2.1 bt328.2.2 bt334.1 bt334.2.1 bt334.2.2 bt339.1 bt339.2 true) else ((impl_IsProfile.f k t312).bind fun t343 => ((spec_IsProfile.f k t312).bind fun t344 => (if (t343 != t344) = true then (laws_FnWinds.j0 k l0 t312 t313 t316 t317 t318 t322 t323 bt328.1 bt328.2.1 bt328.2.2 bt334.1 bt334.2.1 bt334.2.2 bt339.1 bt339.2 true) else (laws_FnWinds.j0 k l0 t312 t313 t316 t317 t318 t322 t323 bt328.1 bt328.2.1 bt328.2.2 bt334.1 bt334.2.1 bt334.2.2 bt339.1 bt339.2 (t324 != t318)))))) else (laws_FnWinds.j0 k l0 t312 t313 t316 t317 t318 t322 t323 bt328.1 bt328.2.1 bt328.2.2 bt334.1 bt334.2.1 bt334.2.2 bt339.1 bt339.2 true)) else (laws_FnWinds.j0 k l0 t312 t313 t316 t317 t318 t322 t323 bt328.1 bt328.2.1 bt328.2.2 bt334.1 bt334.2.1 bt334.2.2 bt339.1 bt339.2 true)) else (laws_FnWinds.j0 k l0 t312 t313 t316 t317 t318 t322 t323 bt328.1 bt328.2.1 bt328.2.2 bt334.1 bt334.2.1 bt334.2.2 bt339.1 bt339.2 true)) else (laws_FnWinds.j0 k l0 t312 t313 t316 t317 t318 t322 t323 bt328.1 bt328.2.1 bt328.2.2 bt334.1 bt334.2.1 bt334.2.2 bt339.1 bt339.2 true)) else (laws_FnWinds.j0 k l0 t312 t313 t316 t317 t318 t322 t323 bt328.1 bt328.2.1 bt328.2.2 bt334.1 bt334.2.1 bt334.2.2 bt339.1 bt339.2 true)) else (laws_FnWinds.j0 k l0 t312 t313 t316 t317 t318 t322 t323 bt328.1 bt328.2.1 bt328.2.2 bt334.1 bt334.2.1 bt334.2.2 bt339.1 bt339.2 true)) else (laws_FnWinds.j0 k l0 t312 t313 t316 t317 t318 t322 t323 bt328.1 bt328.2.1 bt328.2.2 bt334.1 bt334.2.1 bt334.2.2 bt339.1 bt339.2 true)) else (laws_FnWinds.j0 k l0 t312 t313 t316 t317 t318 t322 t323 bt328.1 bt328.2.1 bt328.2.2 bt334.1 bt334.2.1 bt334.2.2 bt339.1 bt339.2 true)) else (laws_FnWinds.j0 k l0 t312 t313 t316 t317 t318 t322 t323 bt328.1 bt328.2.1 bt328.2.2 bt334.1 bt334.2.1 bt334.2.2 bt339.1 bt339.2 true)) else (laws_FnWinds.j0 k l0 t312 t313 t316 t317 t318 t322 t323 bt328.1 bt328.2.1 bt328.2.2 bt334.1 bt334.2.1 bt334.2.2 bt339.1 bt339.2 true)))))))) = some r := H
  have A7 := Aside0.mk A70
  clear A70
  replace H := Option.bind_eq_some_iff.mp H
  obtain ⟨⟨t325, t326, t327⟩, A80, H⟩ := H
  replace H : ((impl_CommonWind.f k t312 t313).bind fun bt328 => ((spec_CommonWind.f k t312 t313).bind fun bt331 => ((spec_DrawIsCalm.f k l0).bind fun bt334 => ((impl_IsCalm.f k bt334.1 bt334.2.1 bt334.2.2).bind fun bt339 => ((spec_IsCalm.f k bt334.1 bt334.2.1 bt334.2.2).bind fun bt341 => (if t318 = t321 then (if t316 = t319 then (if t317 = t320 then (if t324 = t327 then (if t322 = t325 then (if t323 = t326 then (if bt328.2.2 = bt331.2.2 then (if bt328.1 = bt331.1 then (if bt328.2.1 = bt331.2.1 then (if bt339.2 = bt341.2 then (if (bt339.1 != bt341.1) = true then (laws_FnWinds.j0 k l0 t312 t313 t316 t317 t318 t322 t323 bt328.1 bt328.2.1 bt328.2.2 bt334.1 bt334.2.1 bt334.2.2 bt339.1 bt339.2 true) else ((impl_IsProfile.f k t312).bind fun t343 => ((spec_IsProfile.f k t312).bind fun t344 => (if (t343 != t344) = true then (laws_FnWinds.j0 k l0 t312 t313 t316 t317 t318 t322 t323 bt328.1 bt328.2.1 bt328.2.2 bt334.1 bt334.2.1 bt334.2.2 bt339.1 bt339.2 true) else (laws_FnWinds.j0 k l0 t312 t313 t316 t317 t318 t322 t323 bt328.1 bt328.2.1 bt328.2.2 bt334.1 bt334.2.1 bt334.2.2 bt339.1 bt339.2 (t324 != t318)))))) else (laws_FnWinds.j0 k l0 t312 t313 t316 t317 t318 t322 t323 bt328.1 bt328.2.1 bt328.2.2 bt334.1 bt334.2.1 bt334.2.2 bt339.1 bt339.2 true)) else (laws_FnWinds.j0 k l0 t312 t313 t316 t317 t318 t322 t323 bt328.1 bt328.2.1 bt328.2.2 bt334.1 bt334.2.1 bt334.2.2 bt339.1 bt339.2 true)) else (laws_FnWinds.j0 k l0 t312 t313 t316 t317 t318 t322 t323 bt328.1 bt328.2.1 bt328.2.2 bt334.1 bt334.2.1 bt334.2.2 bt339.1 bt339.2 true)) else (laws_FnWinds.j0 k l0 t312 t313 t316 t317 t318 t322 t323 bt328.1 bt328.2.1 bt328.2.2 bt334.1 bt334.2.1 bt334.2.2 bt339.1 bt339.2 true)) else (laws_FnWinds.j0 k l0 t312 t313 t316 t317 t318 t322 t323 bt328.1 bt328.2.1 bt328.2.2 bt334.1 bt334.2.1 bt334.2.2 bt339.1 bt339.2 true)) else (laws_FnWinds.j0 k l0 t312 t313 t316 t317 t318 t322 t323 bt328.1 bt328.2.1 bt328.2.2 bt334.1 bt334.2.1 bt334.2.2 bt339.1 bt339.2 true)) else (laws_FnWinds.j0 k l0 t312 t313 t316 t317 t318 t322 t323 bt328.1 bt328.2.1 bt328.2.2 bt334.1 bt334.2.1 bt334.2.2 bt339.1 bt339.2 true)) else (laws_FnWinds.j0 k l0 t312 t313 t316 t317 t318 t322 t323 bt328.1 bt328.2.1 bt328.2.2 bt334.1 bt334.2.1 bt334.2.2 bt339.1 bt339.2 true)) else (laws_FnWinds.j0 k l0 t312 t313 t316 t317 t318 t322 t323 bt328.1 bt328.2.1 bt328.2.2 bt334.1 bt334.2.1 bt334.2.2 bt339.1 bt339.2 true)) else (laws_FnWinds.j0 k l0 t312 t313 t316 t317 t318 t322 t323 bt328.1 bt328.2.1 bt328.2.2 bt334.1 bt334.2.1 bt334.2.2 bt339.1 bt339.2 true))))))) = some r := H
  have A8 := Aside0.mk A80
  clear A80
  replace H := Option.bind_eq_some_iff.mp H
  obtain ⟨⟨t328, t329, t330⟩, A90, H⟩ := H
  replace H : ((spec_CommonWind.f k t312 t313).bind fun bt331 => ((spec_DrawIsCalm.f k l0).bind fun bt334 => ((impl_IsCalm.f k bt334.1 bt334.2.1 bt334.2.2).bind fun bt339 => ((spec_IsCalm.f k bt334.1 bt334.2.1 bt334.2.2).bind fun bt341 => (if t318 = t321 then (if t316 = t319 then (if t317 = t320 then (if t324 = t327 then (if t322 = t325 then (if t323 = t326 then (if t330 = bt331.2.2 then (if t328 = bt331.1 then (if t329 = bt331.2.1 then (if bt339.2 = bt341.2 then (if (bt339.1 != bt341.1) = true then (laws_FnWinds.j0 k l0 t312 t313 t316 t317 t318 t322 t323 t328 t329 t330 bt334.1 bt334.2.1 bt334.2.2 bt339.1 bt339.2 true) else ((impl_IsProfile.f k t312).bind fun t343 => ((spec_IsProfile.f k t312).bind fun t344 => (if (t343 != t344) = true then (laws_FnWinds.j0 k l0 t312 t313 t316 t317 t318 t322 t323 t328 t329 t330 bt334.1 bt334.2.1 bt334.2.2 bt339.1 bt339.2 true) else (laws_FnWinds.j0 k l0 t312 t313 t316 t317 t318 t322 t323 t328 t329 t330 bt334.1 bt334.2.1 bt334.2.2 bt339.1 bt339.2 (t324 != t318)))))) else (laws_FnWinds.j0 k l0 t312 t313 t316 t317 t318 t322 t323 t328 t329 t330 bt334.1 bt334.2.1 bt334.2.2 bt339.1 bt339.2 true)) else (laws_FnWinds.j0 k l0 t312 t313 t316 t317 t318 t322 t323 t328 t329 t330 bt334.1 bt334.2.1 bt334.2.2 bt339.1 bt339.2 true)) else (laws_FnWinds.j0 k l0 t312 t313 t316 t317 t318 t322 t323 t328 t329 t330 bt334.1 bt334.2.1 bt334.2.2 bt339.1 bt339.2 true)) else (laws_FnWinds.j0 k l0 t312 t313 t316 t317 t318 t322 t323 t328 t329 t330 bt334.1 bt334.2.1 bt334.2.2 bt339.1 bt339.2 true)) else (laws_FnWinds.j0 k l0 t312 t313 t316 t317 t318 t322 t323 t328 t329 t330 bt334.1 bt334.2.1 bt334.2.2 bt339.1 bt339.2 true)) else (laws_FnWinds.j0 k l0 t312 t313 t316 t317 t318 t322 t323 t328 t329 t330 bt334.1 bt334.2.1 bt334.2.2 bt339.1 bt339.2 true)) else (laws_FnWinds.j0 k l0 t312 t313 t316 t317 t318 t322 t323 t328 t329 t330 bt334.1 bt334.2.1 bt334.2.2 bt339.1 bt339.2 true)) else (laws_FnWinds.j0 k l0 t312 t313 t316 t317 t318 t322 t323 t328 t329 t330 bt334.1 bt334.2.1 bt334.2.2 bt339.1 bt339.2 true)) else (laws_FnWinds.j0 k l0 t312 t313 t316 t317 t318 t322 t323 t328 t329 t330 bt334.1 bt334.2.1 bt334.2.2 bt339.1 bt339.2 true)) else (laws_FnWinds.j0 k l0 t312 t313 t316 t317 t318 t322 t323 t328 t329 t330 bt334.1 bt334.2.1 bt334.2.2 bt339.1 bt339.2 true)))))) = some r := H
  have A9 := Aside0.mk A90
  clear A90
  replace H := Option.bind_eq_some_iff.mp H
  obtain ⟨⟨t331, t332, t333⟩, A100, H⟩ := H
  replace H : ((spec_DrawIsCalm.f k l0).bind fun bt334 => ((impl_IsCalm.f k bt334.1 bt334.2.1 bt334.2.2).bind fun bt339 => ((spec_IsCalm.f k bt334.1 bt334.2.1 bt334.2.2).bind fun bt341 => (if t318 = t321 then (if t316 = t319 then (if t317 = t320 then (if t324 = t327 then (if t322 = t325 then (if t323 = t326 then (if t330 = t333 then (if t328 = t331 then (if t329 = t332 then (if bt339.2 = bt341.2 then (if (bt339.1 != bt341.1) = true then (laws_FnWinds.j0 k l0 t312 t313 t316 t317 t318 t322 t323 t328 t329 t330 bt334.1 bt334.2.1 bt334.2.2 bt339.1 bt339.2 true) else ((impl_IsProfile.f k t312).bind fun t343 => ((spec_IsProfile.f k t312).bind fun t344 => (if (t343 != t344) = true then (laws_FnWinds.j0 k l0 t312 t313 t316 t317 t318 t322 t323 t328 t329 t330 bt334.1 bt334.2.1 bt334.2.2 bt339.1 bt339.2 true) else (laws_FnWinds.j0 k l0 t312 t313 t316 t317 t318 t322 t323 t328 t329 t330 bt334.1 bt334.2.1 bt334.2.2 bt339.1 bt339.2 (t324 != t318)))))) else (laws_FnWinds.j0 k l0 t312 t313 t316 t317 t318 t322 t323 t328 t329 t330 bt334.1 bt334.2.1 bt334.2.2 bt339.1 bt339.2 true)) else (laws_FnWinds.j0 k l0 t312 t313 t316 t317 t318 t322 t323 t328 t329 t330 bt334.1 bt334.2.1 bt334.2.2 bt339.1 bt339.2 true)) else (laws_FnWinds.j0 k l0 t312 t313 t316 t317 t318 t322 t323 t328 t329 t330 bt334.1 bt334.2.1 bt334.2.2 bt339.1 bt339.2 true)) else (laws_FnWinds.j0 k l0 t312 t313 t316 t317 t318 t322 t323 t328 t329 t330 bt334.1 bt334.2.1 bt334.2.2 bt339.1 bt339.2 true)) else (laws_FnWinds.j0 k l0 t312 t313 t316 t317 t318 t322 t323 t328 t329 t330 bt334.1 bt334.2.1 bt334.2.2 bt339.1 bt339.2 true)) else (laws_FnWinds.j0 k l0 t312 t313 t316 t317 t318 t322 t323 t328 t329 t330 bt334.1 bt334.2.1 bt334.2.2 bt339.1 bt339.2 true)) else (laws_FnWinds.j0 k l0 t312 t313 t316 t317 t318 t322 t323 t328 t329 t330 bt334.1 bt334.2.1 bt334.2.2 bt339.1 bt339.2 true)) else (laws_FnWinds.j0 k l0 t312 t313 t316 t317 t318 t322 t323 t328 t329 t330 bt334.1 bt334.2.1 bt334.2.2 bt339.1 bt339.2 true)) else (laws_FnWinds.j0 k l0 t312 t313 t316 t317 t318 t322 t323 t328 t329 t330 bt334.1 bt334.2.1 bt334.2.2 bt339.1 bt339.2 true)) else (laws_FnWinds.j0 k l0 t312 t313 t316 t317 t318 t322 t323 t328 t329 t330 bt334.1 bt334.2.1 bt334.2.2 bt339.1 bt339.2 true))))) = some r := H
  have A10 := Aside0.mk A100
  clear A100
  replace H := Option.bind_eq_some_iff.mp H
  obtain ⟨⟨t334, t335, t336⟩, A110, H⟩ := H
  replace H : ((impl_IsCalm.f k t334 t335 t336).bind fun bt339 => ((spec_IsCalm.f k t334 t335 t336).bind fun bt341 => (if t318 = t321 then (if t316 = t319 then (if t317 = t320 then (if t324 = t327 then (if t322 = t325 then (if t323 = t326 then (if t330 = t333 then (if t328 = t331 then (if t329 = t332 then (if bt339.2 = bt341.2 then (if (bt339.1 != bt341.1) = true then (laws_FnWinds.j0 k l0 t312 t313 t316 t317 t318 t322 t323 t328 t329 t330 t334 t335 t336 bt339.1 bt339.2 true) else ((impl_IsProfile.f k t312).bind fun t343 => ((spec_IsProfile.f k t312).bind fun t344 => (if (t343 != t344) = true then (laws_FnWinds.j0 k l0 t312 t313 t316 t317 t318 t322 t323 t328 t329 t330 t334 t335 t336 bt339.1 bt339.2 true) else (laws_FnWinds.j0 k l0 t312 t313 t316 t317 t318 t322 t323 t328 t329 t330 t334 t335 t336 bt339.1 bt339.2 (t324 != t318)))))) else (laws_FnWinds.j0 k l0 t312 t313 t316 t317 t318 t322 t323 t328 t329 t330 t334 t335 t336 bt339.1 bt339.2 true)) else (laws_FnWinds.j0 k l0 t312 t313 t316 t317 t318 t322 t323 t328 t329 t330 t334 t335 t336 bt339.1 bt339.2 true)) else (laws_FnWinds.j0 k l0 t312 t313 t316 t317 t318 t322 t323 t328 t329 t330 t334 t335 t336 bt339.1 bt339.2 true)) else (laws_FnWinds.j0 k l0 t312 t313 t316 t317 t318 t322 t323 t328 t329 t330 t334 t335 t336 bt339.1 bt339.2 true)) else (laws_FnWinds.j0 k l0 t312 t313 t316 t317 t318 t322 t323 t328 t329 t330 t334 t335 t336 bt339.1 bt339.2 true)) else (laws_FnWinds.j0 k l0 t312 t313 t316 t317 t318 t322 t323 t328 t329 t330 t334 t335 t336 bt339.1 bt339.2 true)) else (laws_FnWinds.j0 k l0 t312 t313 t316 t317 t318 t322 t323 t328 t329 t330 t334 t335 t336 bt339.1 bt339.2 true)) else (laws_FnWinds.j0 k l0 t312 t313 t316 t317 t318 t322 t323 t328 t329 t330 t334 t335 t336 bt339.1 bt339.2 true)) else (laws_FnWinds.j0 k l0 t312 t313 t316 t317 t318 t322 t323 t328 t329 t330 t334 t335 t336 bt339.1 bt339.2 true)) else (laws_FnWinds.j0 k l0 t312 t313 t316 t317 t318 t322 t323 t328 t329 t330 t334 t335 t336 bt339.1 bt339.2 true)))) = some r := H
  have A11 := Aside0.mk A110
  clear A110
  replace H := Option.bind_eq_some_iff.mp H
  obtain ⟨⟨t339, t340⟩, A120, H⟩ := H
  replace H : ((spec_IsCalm.f k t334 t335 t336).bind fun bt341 => (if t318 = t321 then (if t316 = t319 then (if t317 = t320 then (if t324 = t327 then (if t322 = t325 then (if t323 = t326 then (if t330 = t333 then (if t328 = t331 then (if t329 = t332 then (if t340 = bt341.2 then (if (t339 != bt341.1) = true then (laws_FnWinds.j0 k l0 t312 t313 t316 t317 t318 t322 t323 t328 t329 t330 t334 t335 t336 t339 t340 true) else ((impl_IsProfile.f k t312).bind fun t343 => ((spec_IsProfile.f k t312).bind fun t344 => (if (t343 != t344) = true then (laws_FnWinds.j0 k l0 t312 t313 t316 t317 t318 t322 t323 t328 t329 t330 t334 t335 t336 t339 t340 true) else (laws_FnWinds.j0 k l0 t312 t313 t316 t317 t318 t322 t323 t328 t329 t330 t334 t335 t336 t339 t340 (t324 != t318)))))) else (laws_FnWinds.j0 k l0 t312 t313 t316 t317 t318 t322 t323 t328 t329 t330 t334 t335 t336 t339 t340 true)) else (laws_FnWinds.j0 k l0 t312 t313 t316 t317 t318 t322 t323 t328 t329 t330 t334 t335 t336 t339 t340 true)) else (laws_FnWinds.j0 k l0 t312 t313 t316 t317 t318 t322 t323 t328 t329 t330 t334 t335 t336 t339 t340 true)) else (laws_FnWinds.j0 k l0 t312 t313 t316 t317 t318 t322 t323 t328 t329 t330 t334 t335 t336 t339 t340 true)) else (laws_FnWinds.j0 k l0 t312 t313 t316 t317 t318 t322 t323 t328 t329 t330 t334 t335 t336 t339 t340 true)) else (laws_FnWinds.j0 k l0 t312 t313 t316 t317 t318 t322 t323 t328 t329 t330 t334 t335 t336 t339 t340 true)) else (laws_FnWinds.j0 k l0 t312 t313 t316 t317 t318 t322 t323 t328 t329 t330 t334 t335 t336 t339 t340 true)) else (laws_FnWinds.j0 k l0 t312 t313 t316 t317 t318 t322 t323 t328 t329 t330 t334 t335 t336 t339 t340 true)) else (laws_FnWinds.j0 k l0 t312 t313 t316 t317 t318 t322 t323 t328 t329 t330 t334 t335 t336 t339 t340 true)) else (laws_FnWinds.j0 k l0 t312 t313 t316 t317 t318 t322 t323 t328 t329 t330 t334 t335 t336 t339 t340 true))) = some r := H
  have A12 := Aside0.mk A120
  clear A120
  replace H := Option.bind_eq_some_iff.mp H
  obtain ⟨⟨t341, t342⟩, A130, H⟩ := H
  replace H : (if t318 = t321 then (if t316 = t319 then (if t317 = t320 then (if t324 = t327 then (if t322 = t325 then (if t323 = t326 then (if t330 = t333 then (if t328 = t331 then (if t329 = t332 then (if t340 = t342 then (if (t339 != t341) = true then (laws_FnWinds.j0 k l0 t312 t313 t316 t317 t318 t322 t323 t328 t329 t330 t334 t335 t336 t339 t340 true) else ((impl_IsProfile.f k t312).bind fun t343 => ((spec_IsProfile.f k t312).bind fun t344 => (if (t343 != t344) = true then (laws_FnWinds.j0 k l0 t312 t313 t316 t317 t318 t322 t323 t328 t329 t330 t334 t335 t336 t339 t340 true) else (laws_FnWinds.j0 k l0 t312 t313 t316 t317 t318 t322 t323 t328 t329 t330 t334 t335 t336 t339 t340 (t324 != t318)))))) else (laws_FnWinds.j0 k l0 t312 t313 t316 t317 t318 t322 t323 t328 t329 t330 t334 t335 t336 t339 t340 true)) else (laws_FnWinds.j0 k l0 t312 t313 t316 t317 t318 t322 t323 t328 t329 t330 t334 t335 t336 t339 t340 true)) else (laws_FnWinds.j0 k l0 t312 t313 t316 t317 t318 t322 t323 t328 t329 t330 t334 t335 t336 t339 t340 true)) else (laws_FnWinds.j0 k l0 t312 t313 t316 t317 t318 t322 t323 t328 t329 t330 t334 t335 t336 t339 t340 true)) else (laws_FnWinds.j0 k l0 t312 t313 t316 t317 t318 t322 t323 t328 t329 t330 t334 t335 t336 t339 t340 true)) else (laws_FnWinds.j0 k l0 t312 t313 t316 t317 t318 t322 t323 t328 t329 t330 t334 t335 t336 t339 t340 true)) else (laws_FnWinds.j0 k l0 t312 t313 t316 t317 t318 t322 t323 t328 t329 t330 t334 t335 t336 t339 t340 true)) else (laws_FnWinds.j0 k l0 t312 t313 t316 t317 t318 t322 t323 t328 t329 t330 t334 t335 t336 t339 t340 true)) else (laws_FnWinds.j0 k l0 t312 t313 t316 t317 t318 t322 t323 t328 t329 t330 t334 t335 t336 t339 t340 true)) else (laws_FnWinds.j0 k l0 t312 t313 t316 t317 t318 t322 t323 t328 t329 t330 t334 t335 t336 t339 t340 true)) = some r := H
  have A13 := Aside0.mk A130
  clear A130
  have HC14 := Aside0.mk H
  clear H
  go_enter Try.func13, Try.ntmps13
  go_upto_region 13 with (first | ((with_reducible refine gate_callee (f := 38) rfl ?_); refine goesL_ (some 38) rfl rfl Try.func38 (by kernel_rfl) rfl #[.slice A0 l0.length c0] rfl (by (try simp only [List.map_toArray, List.map_cons, List.map_nil]); first | done | rfl | (go_simp; done) | simp) ?_; (with_reducible refine (laws_big.calls _ _ l0 false _ ?side1 ?side2 A2.out).mono ?_); (case side1 => repeat (first | exact HR0.out | (with_reducible first | apply cA | apply cN | apply cD))); (case side2 => exact HC0.out); rintro e w' ⟨rfl, ⟨nd, rfl⟩⟩; refine ⟨_, rfl, ?_⟩) | ((with_reducible refine gate_callee (f := 45) rfl ?_); refine goesL_ (some 41) rfl rfl Try.func45 (by kernel_rfl) rfl #[.slice A0 l0.length c0] rfl (by (try simp only [List.map_toArray, List.map_cons, List.map_nil]); first | done | rfl | (go_simp; done) | simp) ?_; (with_reducible refine (spec_DrawWindAt.calls k _ _ l0 t312 t313 _ ?side1 ?side2 A4.out).mono ?_); (case side1 => repeat (first | exact HR0.out | (with_reducible first | apply cA | apply cN | apply cD))); (case side2 => exact HC0.out); rintro e w15 ⟨v314, rfl, ho0, hb⟩; refine ⟨_, rfl, ?_⟩; have n0_ := Aside0.mk (Kd.R_lower ho0 (below_size (by repeat (first | (with_reducible first | exact HB.out | apply lA | apply lN | apply lD) | exact HB.out)))); have n1_ := Aside0.mk (below_step (by repeat (first | (with_reducible first | exact HB.out | apply lA | apply lN | apply lD) | exact HB.out)) hb); clear HB; have HO315 := n0_; have HB := n1_; clear n0_ n1_; (try clear hb); (try clear hb2); (try clear hk); (try clear hi); (try clear ho0); obtain ⟨Ao16, co16, eo16⟩ := Kd.R_slice HO315.out; subst eo16) | ((with_reducible refine gate_callee (f := 20) rfl ?_); refine goesL_ (some 47) rfl rfl Try.func20 (by kernel_rfl) rfl #[.slice Ao16 t312.length co16, .int .i64 t313] rfl (by (try simp only [List.map_toArray, List.map_cons, List.map_nil]); first | done | rfl | (go_simp; done) | simp) ?_; (with_reducible refine (impl_WindAt.calls k _ _ t312 t313 t316 t317 t318 _ ?side1 ?side2 A5.out).mono ?_); (case side1 => repeat (first | exact (Kd.R_reads' HO315.out).2.2 | (with_reducible first | apply cA | apply cN | apply cD))); (case side2 => exact (Kd.R_reads' HO315.out).2.1); rintro e w17 ⟨rfl, hb⟩; refine ⟨_, rfl, ?_⟩; have n0_ := Aside0.mk (Kd.R_below (by (with_reducible repeat (first | apply rA | apply rN | apply rD)); exact HO315.out) hb); have n1_ := Aside0.mk (below_step (by repeat (first | (with_reducible first | exact HB.out | apply lA | apply lN | apply lD) | exact HB.out)) hb); clear HO315; clear HB; have HO315 := n0_; have HB := n1_; clear n0_ n1_; (try clear hb); (try clear hb2); (try clear hk); (try clear hi)) | ((with_reducible refine gate_callee (f := 19) rfl ?_); refine goesL_ (some 54) rfl rfl Try.func19 (by kernel_rfl) rfl #[.slice Ao16 t312.length co16, .int .i64 t313] rfl (by (try simp only [List.map_toArray, List.map_cons, List.map_nil]); first | done | rfl | (go_simp; done) | simp) ?_; (with_reducible refine (spec_WindAt.calls k _ _ t312 t313 t319 t320 t321 _ ?side1 ?side2 A6.out).mono ?_); (case side1 => repeat (first | exact (Kd.R_reads' HO315.out).2.2 | (with_reducible first | apply cA | apply cN | apply cD))); (case side2 => exact (Kd.R_reads' HO315.out).2.1); rintro e w18 ⟨rfl, hb⟩; refine ⟨_, rfl, ?_⟩; have n0_ := Aside0.mk (Kd.R_below (by (with_reducible repeat (first | apply rA | apply rN | apply rD)); exact HO315.out) hb); have n1_ := Aside0.mk (below_step (by repeat (first | (with_reducible first | exact HB.out | apply lA | apply lN | apply lD) | exact HB.out)) hb); clear HO315; clear HB; have HO315 := n0_; have HB := n1_; clear n0_ n1_; (try clear hb); (try clear hb2); (try clear hk); (try clear hi)) | ((with_reducible refine gate_callee (f := 22) rfl ?_); refine goesL_ (some 61) rfl rfl Try.func22 (by kernel_rfl) rfl #[.slice Ao16 t312.length co16, .int .i64 t313] rfl (by (try simp only [List.map_toArray, List.map_cons, List.map_nil]); first | done | rfl | (go_simp; done) | simp) ?_; (with_reducible refine (impl_WidestWind.calls k _ _ t312 t313 t322 t323 t324 _ ?side1 ?side2 A7.out).mono ?_); (case side1 => repeat (first | exact (Kd.R_reads' HO315.out).2.2 | (with_reducible first | apply cA | apply cN | apply cD))); (case side2 => exact (Kd.R_reads' HO315.out).2.1); rintro e w19 ⟨rfl, hb⟩; refine ⟨_, rfl, ?_⟩; have n0_ := Aside0.mk (Kd.R_below (by (with_reducible repeat (first | apply rA | apply rN | apply rD)); exact HO315.out) hb); have n1_ := Aside0.mk (below_step (by repeat (first | (with_reducible first | exact HB.out | apply lA | apply lN | apply lD) | exact HB.out)) hb); clear HO315; clear HB; have HO315 := n0_; have HB := n1_; clear n0_ n1_; (try clear hb); (try clear hb2); (try clear hk); (try clear hi)) | ((with_reducible refine gate_callee (f := 21) rfl ?_); refine goesL_ (some 68) rfl rfl Try.func21 (by kernel_rfl) rfl #[.slice Ao16 t312.length co16, .int .i64 t313] rfl (by (try simp only [List.map_toArray, List.map_cons, List.map_nil]); first | done | rfl | (go_simp; done) | simp) ?_; (with_reducible refine (spec_WidestWind.calls k _ _ t312 t313 t325 t326 t327 _ ?side1 ?side2 A8.out).mono ?_); (case side1 => repeat (first | exact (Kd.R_reads' HO315.out).2.2 | (with_reducible first | apply cA | apply cN | apply cD))); (case side2 => exact (Kd.R_reads' HO315.out).2.1); rintro e w20 ⟨rfl, hb⟩; refine ⟨_, rfl, ?_⟩; have n0_ := Aside0.mk (Kd.R_below (by (with_reducible repeat (first | apply rA | apply rN | apply rD)); exact HO315.out) hb); have n1_ := Aside0.mk (below_step (by repeat (first | (with_reducible first | exact HB.out | apply lA | apply lN | apply lD) | exact HB.out)) hb); clear HO315; clear HB; have HO315 := n0_; have HB := n1_; clear n0_ n1_; (try clear hb); (try clear hb2); (try clear hk); (try clear hi)) | ((with_reducible refine gate_callee (f := 24) rfl ?_); refine goesL_ (some 75) rfl rfl Try.func24 (by kernel_rfl) rfl #[.slice Ao16 t312.length co16, .int .i64 t313] rfl (by (try simp only [List.map_toArray, List.map_cons, List.map_nil]); first | done | rfl | (go_simp; done) | simp) ?_; (with_reducible refine (impl_CommonWind.calls k _ _ t312 t313 t328 t329 t330 _ ?side1 ?side2 A9.out).mono ?_); (case side1 => repeat (first | exact (Kd.R_reads' HO315.out).2.2 | (with_reducible first | apply cA | apply cN | apply cD))); (case side2 => exact (Kd.R_reads' HO315.out).2.1); rintro e w21 ⟨rfl, hb⟩; refine ⟨_, rfl, ?_⟩; have n0_ := Aside0.mk (Kd.R_below (by (with_reducible repeat (first | apply rA | apply rN | apply rD)); exact HO315.out) hb); have n1_ := Aside0.mk (below_step (by repeat (first | (with_reducible first | exact HB.out | apply lA | apply lN | apply lD) | exact HB.out)) hb); clear HO315; clear HB; have HO315 := n0_; have HB := n1_; clear n0_ n1_; (try clear hb); (try clear hb2); (try clear hk); (try clear hi)) | ((with_reducible refine gate_callee (f := 23) rfl ?_); refine goesL_ (some 82) rfl rfl Try.func23 (by kernel_rfl) rfl #[.slice Ao16 t312.length co16, .int .i64 t313] rfl (by (try simp only [List.map_toArray, List.map_cons, List.map_nil]); first | done | rfl | (go_simp; done) | simp) ?_; (with_reducible refine (spec_CommonWind.calls k _ _ t312 t313 t331 t332 t333 _ ?side1 ?side2 A10.out).mono ?_); (case side1 => repeat (first | exact (Kd.R_reads' HO315.out).2.2 | (with_reducible first | apply cA | apply cN | apply cD))); (case side2 => exact (Kd.R_reads' HO315.out).2.1); rintro e w22 ⟨rfl, hb⟩; refine ⟨_, rfl, ?_⟩; have n0_ := Aside0.mk (Kd.R_below (by (with_reducible repeat (first | apply rA | apply rN | apply rD)); exact HO315.out) hb); have n1_ := Aside0.mk (below_step (by repeat (first | (with_reducible first | exact HB.out | apply lA | apply lN | apply lD) | exact HB.out)) hb); clear HO315; clear HB; have HO315 := n0_; have HB := n1_; clear n0_ n1_; (try clear hb); (try clear hb2); (try clear hk); (try clear hi)) | ((with_reducible refine gate_callee (f := 46) rfl ?_); refine goesL_ (some 88) rfl rfl Try.func46 (by kernel_rfl) rfl #[.slice A0 l0.length c0] rfl (by (try simp only [List.map_toArray, List.map_cons, List.map_nil]); first | done | rfl | (go_simp; done) | simp) ?_; (with_reducible refine (spec_DrawIsCalm.calls k _ _ l0 t334 t335 t336 _ ?side1 ?side2 A11.out).mono ?_); (case side1 => repeat (first | exact (Kd.C_below HR0.out HB.out) | (with_reducible first | apply cA | apply cN | apply cD))); (case side2 => exact HC0.out); rintro e w23 ⟨v337, rfl, ho0, hb⟩; refine ⟨_, rfl, ?_⟩; have n0_ := Aside0.mk (Kd.R_elder' (by (with_reducible repeat (first | apply rA | apply rN | apply rD)); exact HO315.out) (Kd.R_base ho0) hb); have n1_ := Aside0.mk (Kd.R_lower (Kd.R_new' ho0 (Kd.R_lt (by (with_reducible repeat (first | apply rA | apply rN | apply rD)); exact HO315.out))) (below_size (by repeat (first | (with_reducible first | exact HB.out | apply lA | apply lN | apply lD) | exact HB.out)))); have n2_ := Aside0.mk (below_step (by repeat (first | (with_reducible first | exact HB.out | apply lA | apply lN | apply lD) | exact HB.out)) hb); clear HO315; clear HB; have HO315 := n0_; have HO338 := n1_; have HB := n2_; clear n0_ n1_ n2_; (try clear hb); (try clear hb2); (try clear hk); (try clear hi); (try clear ho0); obtain ⟨Ao24, co24, eo24⟩ := Kd.R_slice HO338.out; subst eo24) | ((with_reducible refine gate_callee (f := 26) rfl ?_); refine goesL_ (some 96) rfl rfl Try.func26 (by kernel_rfl) rfl #[.slice Ao24 t334.length co24, .int .i64 t335, .int .i64 t336] rfl (by (try simp only [List.map_toArray, List.map_cons, List.map_nil]); first | done | rfl | (go_simp; done) | simp) ?_; (with_reducible refine (impl_IsCalm.calls k _ _ t334 t335 t336 t339 t340 _ ?side1 ?side2 A12.out).mono ?_); (case side1 => repeat (first | exact (Kd.R_reads' HO338.out).2.2 | (with_reducible first | apply cA | apply cN | apply cD))); (case side2 => exact (Kd.R_reads' HO338.out).2.1); rintro e w25 ⟨rfl, hb⟩; refine ⟨_, rfl, ?_⟩; have n0_ := Aside0.mk (Kd.R_below (by (with_reducible repeat (first | apply rA | apply rN | apply rD)); exact HO315.out) hb); have n1_ := Aside0.mk (Kd.R_below (by (with_reducible repeat (first | apply rA | apply rN | apply rD)); exact HO338.out) hb); have n2_ := Aside0.mk (below_step (by repeat (first | (with_reducible first | exact HB.out | apply lA | apply lN | apply lD) | exact HB.out)) hb); clear HO315; clear HO338; clear HB; have HO315 := n0_; have HO338 := n1_; have HB := n2_; clear n0_ n1_ n2_; (try clear hb); (try clear hb2); (try clear hk); (try clear hi)) | ((with_reducible refine gate_callee (f := 25) rfl ?_); refine goesL_ (some 103) rfl rfl Try.func25 (by kernel_rfl) rfl #[.slice Ao24 t334.length co24, .int .i64 t335, .int .i64 t336] rfl (by (try simp only [List.map_toArray, List.map_cons, List.map_nil]); first | done | rfl | (go_simp; done) | simp) ?_; (with_reducible refine (spec_IsCalm.calls k _ _ t334 t335 t336 t341 t342 _ ?side1 ?side2 A13.out).mono ?_); (case side1 => repeat (first | exact (Kd.R_reads' HO338.out).2.2 | (with_reducible first | apply cA | apply cN | apply cD))); (case side2 => exact (Kd.R_reads' HO338.out).2.1); rintro e w26 ⟨rfl, hb⟩; refine ⟨_, rfl, ?_⟩; have n0_ := Aside0.mk (Kd.R_below (by (with_reducible repeat (first | apply rA | apply rN | apply rD)); exact HO315.out) hb); have n1_ := Aside0.mk (Kd.R_below (by (with_reducible repeat (first | apply rA | apply rN | apply rD)); exact HO338.out) hb); have n2_ := Aside0.mk (below_step (by repeat (first | (with_reducible first | exact HB.out | apply lA | apply lN | apply lD) | exact HB.out)) hb); clear HO315; clear HO338; clear HB; have HO315 := n0_; have HO338 := n1_; have HB := n2_; clear n0_ n1_ n2_; (try clear hb); (try clear hb2); (try clear hk); (try clear hi)))
  (try simp only [Act.put, sT, s0, sS])
  go_cut [170] (fun v170 wc => ∃ (kq : Nat) (x170_13 : Bool), v170 = .bool x170_13 ∧ Aside0 (laws_FnWinds.j0 kq l0 t312 t313 t316 t317 t318 t322 t323 t328 t329 t330 t334 t335 t336 t339 t340 x170_13 = some r) ∧ Aside0 (kq ≤ k) ∧ Aside0 (Kd.R k55 55 wc w.heap.size (fun k_ => some k_ ≠ ((.slice Ao24 t334.length co24) : Value).ownBlock) (.slice Ao16 t312.length co16) t312) ∧ Aside0 (Kd.R k55 55 wc w.heap.size (fun k_ => some k_ ≠ ((.slice Ao16 t312.length co16) : Value).ownBlock) (.slice Ao24 t334.length co24) t334) ∧ Aside0 (Below w.heap.size w wc))
  case first =>
   have H := HC14.out
   clear HC14
   by_cases c27 : t318 = t321
   ·
    rw [if_pos c27] at H
    have c27b0 : (t318 == t321) = true := beq_iff_eq.mpr c27
    have c27b1 : (t318 != t321) = false := bne_eq_false_iff_eq.mpr c27
    clear c27
    (first | rw [c27b0] | (simp only [i64_w, i32_w]; rw [c27b0]) | skip)
    by_cases c28 : t316 = t319
    ·
     rw [if_pos c28] at H
     have c28b0 : (t316 == t319) = true := beq_iff_eq.mpr c28
     have c28b1 : (t316 != t319) = false := bne_eq_false_iff_eq.mpr c28
     clear c28
     by_cases c29 : t317 = t320
     ·
      rw [if_pos c29] at H
      have c29b0 : (t317 == t320) = true := beq_iff_eq.mpr c29
      have c29b1 : (t317 != t320) = false := bne_eq_false_iff_eq.mpr c29
      clear c29
      by_cases c30 : t324 = t327
      ·
       rw [if_pos c30] at H
       have c30b0 : (t324 == t327) = true := beq_iff_eq.mpr c30
       have c30b1 : (t324 != t327) = false := bne_eq_false_iff_eq.mpr c30
       clear c30
       by_cases c31 : t322 = t325
       ·
        rw [if_pos c31] at H
        have c31b0 : (t322 == t325) = true := beq_iff_eq.mpr c31
        have c31b1 : (t322 != t325) = false := bne_eq_false_iff_eq.mpr c31
        clear c31
        by_cases c32 : t323 = t326
        ·
         rw [if_pos c32] at H
         have c32b0 : (t323 == t326) = true := beq_iff_eq.mpr c32
         have c32b1 : (t323 != t326) = false := bne_eq_false_iff_eq.mpr c32
         clear c32
         by_cases c33 : t330 = t333
         ·
          rw [if_pos c33] at H
          have c33b0 : (t330 == t333) = true := beq_iff_eq.mpr c33
          have c33b1 : (t330 != t333) = false := bne_eq_false_iff_eq.mpr c33
          clear c33
          by_cases c34 : t328 = t331
          ·
           rw [if_pos c34] at H
           have c34b0 : (t328 == t331) = true := beq_iff_eq.mpr c34
           have c34b1 : (t328 != t331) = false := bne_eq_false_iff_eq.mpr c34
           clear c34
           by_cases c35 : t329 = t332
           ·
            rw [if_pos c35] at H
            have c35b0 : (t329 == t332) = true := beq_iff_eq.mpr c35
            have c35b1 : (t329 != t332) = false := bne_eq_false_iff_eq.mpr c35
            clear c35
            by_cases c36 : t340 = t342
            ·
             rw [if_pos c36] at H
             have c36b0 : (t340 == t342) = true := beq_iff_eq.mpr c36
             have c36b1 : (t340 != t342) = false := bne_eq_false_iff_eq.mpr c36
             clear c36
             by_cases c37 : (t339 != t341) = true
             ·
              rw [if_pos c37] at H
              have c37b0 : (t339 != t341) = true := c37
              (try (have c37b1 : decide (t339 = t341) = false := by simpa using c37))
              (try (have c37b2 : (t339 == t341) = false := by simpa using c37))
              (try (have c37b3 : ¬ (t339 = t341) := by simpa using c37))
              clear c37
              exact absurd (H.trans (congrArg some hr_.out)) (j0T _ _ _ _ _ _ _ _ _ _ _ _ _ _ _ _ _ )
             ·
              rw [if_neg c37] at H
              have c37b0 : (t339 != t341) = false := by simpa using c37
              (try (have c37b1 : decide (t339 = t341) = true := by simpa using c37))
              (try (have c37b2 : (t339 == t341) = true := by simpa using c37))
              clear c37
              replace H := Option.bind_eq_some_iff.mp H
              obtain ⟨t343, A380, H⟩ := H
              replace H : ((spec_IsProfile.f k t312).bind fun t344 => (if (t343 != t344) = true then (laws_FnWinds.j0 k l0 t312 t313 t316 t317 t318 t322 t323 t328 t329 t330 t334 t335 t336 t339 t340 true) else (laws_FnWinds.j0 k l0 t312 t313 t316 t317 t318 t322 t323 t328 t329 t330 t334 t335 t336 t339 t340 (t324 != t318)))) = some r := H
              have A38 := Aside0.mk A380
              clear A380
              replace H := Option.bind_eq_some_iff.mp H
              obtain ⟨t344, A390, H⟩ := H
              replace H : (if (t343 != t344) = true then (laws_FnWinds.j0 k l0 t312 t313 t316 t317 t318 t322 t323 t328 t329 t330 t334 t335 t336 t339 t340 true) else (laws_FnWinds.j0 k l0 t312 t313 t316 t317 t318 t322 t323 t328 t329 t330 t334 t335 t336 t339 t340 (t324 != t318))) = some r := H
              have A39 := Aside0.mk A390
              clear A390
              by_cases c40 : (t343 != t344) = true
              ·
               rw [if_pos c40] at H
               have c40b0 : (t343 != t344) = true := c40
               (try (have c40b1 : decide (t343 = t344) = false := by simpa using c40))
               (try (have c40b2 : (t343 == t344) = false := by simpa using c40))
               (try (have c40b3 : ¬ (t343 = t344) := by simpa using c40))
               clear c40
               exact absurd (H.trans (congrArg some hr_.out)) (j0T _ _ _ _ _ _ _ _ _ _ _ _ _ _ _ _ _ )
              ·
               rw [if_neg c40] at H
               have c40b0 : (t343 != t344) = false := by simpa using c40
               (try (have c40b1 : decide (t343 = t344) = true := by simpa using c40))
               (try (have c40b2 : (t343 == t344) = true := by simpa using c40))
               clear c40
               have H' := Aside0.mk H
               clear H
               go_wp2_with (first | (go_at_call 17; (with_reducible refine (impl_IsProfile.calls k _ _ t312 t343 _ ?side1 ?side2 A38.out).mono ?_); (case side1 => repeat (first | exact (Kd.R_reads' HO315.out).2.2 | (with_reducible first | apply cA | apply cN | apply cD))); (case side2 => exact (Kd.R_reads' HO315.out).2.1); rintro e w43 ⟨rfl, hb⟩; have n0_ := Aside0.mk (Kd.R_below (by (with_reducible repeat (first | apply rA | apply rN | apply rD)); exact HO315.out) hb); have n1_ := Aside0.mk (Kd.R_below (by (with_reducible repeat (first | apply rA | apply rN | apply rD)); exact HO338.out) hb); have n2_ := Aside0.mk (below_step (by repeat (first | (with_reducible first | exact HB.out | apply lA | apply lN | apply lD) | exact HB.out)) hb); clear HO315; clear HO338; clear HB; have HO315 := n0_; have HO338 := n1_; have HB := n2_; clear n0_ n1_ n2_; (try clear hb); (try clear hb2); (try clear hk); (try clear hi)) | (go_at_call 15; (with_reducible refine (spec_IsProfile.calls k _ _ t312 t344 _ ?side1 ?side2 A39.out).mono ?_); (case side1 => repeat (first | exact (Kd.R_reads' HO315.out).2.2 | (with_reducible first | apply cA | apply cN | apply cD))); (case side2 => exact (Kd.R_reads' HO315.out).2.1); rintro e w44 ⟨rfl, hb⟩; have n0_ := Aside0.mk (Kd.R_below (by (with_reducible repeat (first | apply rA | apply rN | apply rD)); exact HO315.out) hb); have n1_ := Aside0.mk (Kd.R_below (by (with_reducible repeat (first | apply rA | apply rN | apply rD)); exact HO338.out) hb); have n2_ := Aside0.mk (below_step (by repeat (first | (with_reducible first | exact HB.out | apply lA | apply lN | apply lD) | exact HB.out)) hb); clear HO315; clear HO338; clear HB; have HO315 := n0_; have HO338 := n1_; have HB := n2_; clear n0_ n1_ n2_; (try clear hb); (try clear hb2); (try clear hk); (try clear hi)))
               go_meet
               case rel => exact ⟨_, ((t324 != t318)), (by first | rfl | (simp; done) | (simp [*]; done)), H', ⟨by first | omega | exact Nat.le_refl _⟩, ⟨by (with_reducible repeat (first | apply rA | apply rN | apply rD)); exact Kd.R_mono HO315.out (fun _ hk => hk.2)⟩, ⟨by (with_reducible repeat (first | apply rA | apply rN | apply rD)); exact Kd.R_mono HO338.out (fun _ hk => hk.2)⟩, ⟨by repeat (first | (with_reducible first | exact HB.out | apply lA | apply lN | apply lD) | exact HB.out)⟩⟩
            ·
             rw [if_neg c36] at H
             have c36b0 : (t340 == t342) = false := beq_eq_false_iff_ne.mpr c36
             have c36b1 : (t340 != t342) = true := bne_iff_ne.mpr c36
             exact absurd (H.trans (congrArg some hr_.out)) (j0T _ _ _ _ _ _ _ _ _ _ _ _ _ _ _ _ _ )
           ·
            rw [if_neg c35] at H
            have c35b0 : (t329 == t332) = false := beq_eq_false_iff_ne.mpr c35
            have c35b1 : (t329 != t332) = true := bne_iff_ne.mpr c35
            exact absurd (H.trans (congrArg some hr_.out)) (j0T _ _ _ _ _ _ _ _ _ _ _ _ _ _ _ _ _ )
          ·
           rw [if_neg c34] at H
           have c34b0 : (t328 == t331) = false := beq_eq_false_iff_ne.mpr c34
           have c34b1 : (t328 != t331) = true := bne_iff_ne.mpr c34
           exact absurd (H.trans (congrArg some hr_.out)) (j0T _ _ _ _ _ _ _ _ _ _ _ _ _ _ _ _ _ )
         ·
          rw [if_neg c33] at H
          have c33b0 : (t330 == t333) = false := beq_eq_false_iff_ne.mpr c33
          have c33b1 : (t330 != t333) = true := bne_iff_ne.mpr c33
          exact absurd (H.trans (congrArg some hr_.out)) (j0T _ _ _ _ _ _ _ _ _ _ _ _ _ _ _ _ _ )
        ·
         rw [if_neg c32] at H
         have c32b0 : (t323 == t326) = false := beq_eq_false_iff_ne.mpr c32
         have c32b1 : (t323 != t326) = true := bne_iff_ne.mpr c32
         exact absurd (H.trans (congrArg some hr_.out)) (j0T _ _ _ _ _ _ _ _ _ _ _ _ _ _ _ _ _ )
       ·
        rw [if_neg c31] at H
        have c31b0 : (t322 == t325) = false := beq_eq_false_iff_ne.mpr c31
        have c31b1 : (t322 != t325) = true := bne_iff_ne.mpr c31
        exact absurd (H.trans (congrArg some hr_.out)) (j0T _ _ _ _ _ _ _ _ _ _ _ _ _ _ _ _ _ )
      ·
       rw [if_neg c30] at H
       have c30b0 : (t324 == t327) = false := beq_eq_false_iff_ne.mpr c30
       have c30b1 : (t324 != t327) = true := bne_iff_ne.mpr c30
       exact absurd (H.trans (congrArg some hr_.out)) (j0T _ _ _ _ _ _ _ _ _ _ _ _ _ _ _ _ _ )
     ·
      rw [if_neg c29] at H
      have c29b0 : (t317 == t320) = false := beq_eq_false_iff_ne.mpr c29
      have c29b1 : (t317 != t320) = true := bne_iff_ne.mpr c29
      exact absurd (H.trans (congrArg some hr_.out)) (j0T _ _ _ _ _ _ _ _ _ _ _ _ _ _ _ _ _ )
    ·
     rw [if_neg c28] at H
     have c28b0 : (t316 == t319) = false := beq_eq_false_iff_ne.mpr c28
     have c28b1 : (t316 != t319) = true := bne_iff_ne.mpr c28
     exact absurd (H.trans (congrArg some hr_.out)) (j0T _ _ _ _ _ _ _ _ _ _ _ _ _ _ _ _ _ )
   ·
    rw [if_neg c27] at H
    have c27b0 : (t318 == t321) = false := beq_eq_false_iff_ne.mpr c27
    have c27b1 : (t318 != t321) = true := bne_iff_ne.mpr c27
    (first | rw [c27b0] | (simp only [i64_w, i32_w]; rw [c27b0]) | skip)
    exact absurd (H.trans (congrArg some hr_.out)) (j0T _ _ _ _ _ _ _ _ _ _ _ _ _ _ _ _ _ )
  case rest =>
   clear HC14
   try clear c1
   try clear c2
   try clear p2
   try clear c3
   try clear c4
   try clear c13
   try clear c19
   try clear c20
   try clear c21
   try clear c22
   try clear c23
   try clear c24
   try clear c25
   try clear c26
   try clear c27
   try clear c27b0
   try clear c27b1
   try clear c28
   try clear c28b0
   try clear c28b1
   try clear c29
   try clear c29b0
   try clear c29b1
   try clear c30
   try clear c30b0
   try clear c30b1
   try clear c31
   try clear c31b0
   try clear c31b1
   try clear c32
   try clear c32b0
   try clear c32b1
   try clear c33
   try clear c33b0
   try clear c33b1
   try clear c34
   try clear c34b0
   try clear c34b1
   try clear c35
   try clear c35b0
   try clear c35b1
   try clear c36
   try clear c36b0
   try clear c36b1
   try clear c37
   try clear c37b0
   try clear c37b1
   try clear c37b2
   try clear c38
   try clear c40
   try clear c40b0
   try clear c40b1
   try clear c40b2
   obtain ⟨kq, x170_13, rfl, HA, HJ13, HO_3, HO_23, HB⟩ := hcut
   cases kq with
   | zero => exact absurd HA.out (by simp [laws_FnWinds.j0])
   | succ kj13 =>
    have H := HA.out
    clear HA
    simp only [laws_FnWinds.j0] at H
    by_cases c45 : x170_13 = true
    ·
     subst c45
     have H1 : (some false) = some r := by rw [if_pos rfl] at H; exact H
     clear H
     have H := H1
     clear H1
     obtain rfl := Option.some.inj H
     exact absurd hr_.out (by decide)
    ·
     replace c45 := Bool.eq_false_iff.mpr c45
     subst c45
     have H1 : (if t340 = 0 then ((impl_WidestWind.f kj13 t334 t335).bind fun bt345 => (if bt345.2.2 = 0 then (if bt345.1 ≥ (wrap64 (-t336)) then (if (t339 != (decide (bt345.2.1 ≤ t336))) = true then (some false) else (laws_FnWinds.j1 kj13 l0 t312 t313 t316 t317 t318 t322 t323 t328 t329 t330)) else (if (t339 != false) = true then (some false) else (laws_FnWinds.j1 kj13 l0 t312 t313 t316 t317 t318 t322 t323 t328 t329 t330))) else (some false))) else (laws_FnWinds.j1 kj13 l0 t312 t313 t316 t317 t318 t322 t323 t328 t329 t330)) = some r := by rw [if_neg (show ¬ (false = true) by decide)] at H; exact H
     clear H
     have H := H1
     clear H1
     have HC46 := Aside0.mk H
     clear H
     go_upto_if 172 with (fail)
     go_cut [] (fun wc => ∃ (kq : Nat), Aside0 (laws_FnWinds.j1 kq l0 t312 t313 t316 t317 t318 t322 t323 t328 t329 t330 = some r) ∧ Aside0 (kq ≤ kj13) ∧ Aside0 (Kd.R k55 55 wc w.heap.size (fun _ => True) (.slice Ao16 t312.length co16) t312) ∧ Aside0 (Below w.heap.size w wc))
     case first =>
      have H := HC46.out
      clear HC46
      by_cases c47 : t340 = 0
      ·
       rw [if_pos c47] at H
       have c47b0 : (t340 == 0) = true := beq_iff_eq.mpr c47
       have c47b1 : (t340 != 0) = false := bne_eq_false_iff_eq.mpr c47
       clear c47
       (first | rw [c47b0] | (simp only [i64_w, i32_w]; rw [c47b0]) | skip)
       replace H := Option.bind_eq_some_iff.mp H
       obtain ⟨⟨t345, t346, t347⟩, A480, H⟩ := H
       replace H : (if t347 = 0 then (if t345 ≥ (wrap64 (-t336)) then (if (t339 != (decide (t346 ≤ t336))) = true then (some false) else (laws_FnWinds.j1 kj13 l0 t312 t313 t316 t317 t318 t322 t323 t328 t329 t330)) else (if (t339 != false) = true then (some false) else (laws_FnWinds.j1 kj13 l0 t312 t313 t316 t317 t318 t322 t323 t328 t329 t330))) else (some false)) = some r := H
       have A48 := Aside0.mk A480
       clear A480
       by_cases c49 : t347 = 0
       ·
        rw [if_pos c49] at H
        have c49b0 : (t347 == 0) = true := beq_iff_eq.mpr c49
        have c49b1 : (t347 != 0) = false := bne_eq_false_iff_eq.mpr c49
        clear c49
        by_cases c50 : t345 ≥ (wrap64 (-t336))
        ·
         rw [if_pos c50] at H
         have c50b0 : decide ((wrap64 (-t336)) ≤ t345) = true := decide_eq_true c50
         clear c50
         by_cases c51 : (t339 != (decide (t346 ≤ t336))) = true
         ·
          rw [if_pos c51] at H
          have c51b0 : (t339 != (decide (t346 ≤ t336))) = true := c51
          (try (have c51b1 : decide (t339 = (decide (t346 ≤ t336))) = false := by simpa using c51))
          (try (have c51b2 : (t339 == (decide (t346 ≤ t336))) = false := by simpa using c51))
          (try (have c51b3 : ¬ (t339 = (decide (t346 ≤ t336))) := by simpa using c51))
          clear c51
          obtain rfl := Option.some.inj H
          exact absurd hr_.out (by decide)
         ·
          rw [if_neg c51] at H
          have c51b0 : (t339 != (decide (t346 ≤ t336))) = false := by simpa using c51
          (try (have c51b1 : decide (t339 = (decide (t346 ≤ t336))) = true := by simpa using c51))
          (try (have c51b2 : (t339 == (decide (t346 ≤ t336))) = true := by simpa using c51))
          clear c51
          have H' := Aside0.mk H
          clear H
          go_wp2_with (first | ((with_reducible refine gate_callee (f := 22) rfl ?_); refine goesL_ (some 176) rfl rfl Try.func22 (by kernel_rfl) rfl #[.slice Ao24 t334.length co24, .int .i64 t335] rfl (by (try simp only [List.map_toArray, List.map_cons, List.map_nil]); first | done | rfl | (go_simp; done) | simp) ?_; (with_reducible refine (impl_WidestWind.calls kj13 _ _ t334 t335 t345 t346 t347 _ ?side1 ?side2 A48.out).mono ?_); (case side1 => repeat (first | exact (Kd.R_reads' HO_23.out).2.2 | (with_reducible first | apply cA | apply cN | apply cD))); (case side2 => exact (Kd.R_reads' HO_23.out).2.1); rintro e w52 ⟨rfl, hb⟩; refine ⟨_, rfl, ?_⟩; have n0_ := Aside0.mk (Kd.R_below (by (with_reducible repeat (first | apply rA | apply rN | apply rD)); exact HO_3.out) hb); have n1_ := Aside0.mk (Kd.R_below (by (with_reducible repeat (first | apply rA | apply rN | apply rD)); exact HO_23.out) hb); have n2_ := Aside0.mk (below_step (by repeat (first | (with_reducible first | exact HB.out | apply lA | apply lN | apply lD) | exact HB.out)) hb); clear HO_3; clear HO_23; clear HB; have HO_3 := n0_; have HO_23 := n1_; have HB := n2_; clear n0_ n1_ n2_; (try clear hb); (try clear hb2); (try clear hk); (try clear hi)))
          go_meet
          case rel => exact ⟨_, H', ⟨by have := HJ13.out; first | omega | exact Nat.le_refl _⟩, ⟨by (with_reducible repeat (first | apply rA | apply rN | apply rD)); exact Kd.R_mono HO_3.out (fun _ hk => trivial)⟩, ⟨by repeat (first | (with_reducible first | exact HB.out | apply lA | apply lN | apply lD) | exact HB.out)⟩⟩
        ·
         rw [if_neg c50] at H
         have c50b0 : decide ((wrap64 (-t336)) ≤ t345) = false := decide_eq_false c50
         clear c50
         by_cases c53 : (t339 != false) = true
         ·
          rw [if_pos c53] at H
          have c53b0 : (t339 != false) = true := c53
          (try (have c53b1 : decide (t339 = false) = false := by simpa using c53))
          (try (have c53b2 : (t339 == false) = false := by simpa using c53))
          (try (have c53b3 : ¬ (t339 = false) := by simpa using c53))
          clear c53
          obtain rfl := Option.some.inj H
          exact absurd hr_.out (by decide)
         ·
          rw [if_neg c53] at H
          have c53b0 : (t339 != false) = false := by simpa using c53
          (try (have c53b1 : decide (t339 = false) = true := by simpa using c53))
          (try (have c53b2 : (t339 == false) = true := by simpa using c53))
          clear c53
          have H' := Aside0.mk H
          clear H
          go_wp2_with (first | ((with_reducible refine gate_callee (f := 22) rfl ?_); refine goesL_ (some 176) rfl rfl Try.func22 (by kernel_rfl) rfl #[.slice Ao24 t334.length co24, .int .i64 t335] rfl (by (try simp only [List.map_toArray, List.map_cons, List.map_nil]); first | done | rfl | (go_simp; done) | simp) ?_; (with_reducible refine (impl_WidestWind.calls kj13 _ _ t334 t335 t345 t346 t347 _ ?side1 ?side2 A48.out).mono ?_); (case side1 => repeat (first | exact (Kd.R_reads' HO_23.out).2.2 | (with_reducible first | apply cA | apply cN | apply cD))); (case side2 => exact (Kd.R_reads' HO_23.out).2.1); rintro e w54 ⟨rfl, hb⟩; refine ⟨_, rfl, ?_⟩; have n0_ := Aside0.mk (Kd.R_below (by (with_reducible repeat (first | apply rA | apply rN | apply rD)); exact HO_3.out) hb); have n1_ := Aside0.mk (Kd.R_below (by (with_reducible repeat (first | apply rA | apply rN | apply rD)); exact HO_23.out) hb); have n2_ := Aside0.mk (below_step (by repeat (first | (with_reducible first | exact HB.out | apply lA | apply lN | apply lD) | exact HB.out)) hb); clear HO_3; clear HO_23; clear HB; have HO_3 := n0_; have HO_23 := n1_; have HB := n2_; clear n0_ n1_ n2_; (try clear hb); (try clear hb2); (try clear hk); (try clear hi)))
          go_meet
          case rel => exact ⟨_, H', ⟨by have := HJ13.out; first | omega | exact Nat.le_refl _⟩, ⟨by (with_reducible repeat (first | apply rA | apply rN | apply rD)); exact Kd.R_mono HO_3.out (fun _ hk => trivial)⟩, ⟨by repeat (first | (with_reducible first | exact HB.out | apply lA | apply lN | apply lD) | exact HB.out)⟩⟩
       ·
        rw [if_neg c49] at H
        have c49b0 : (t347 == 0) = false := beq_eq_false_iff_ne.mpr c49
        have c49b1 : (t347 != 0) = true := bne_iff_ne.mpr c49
        obtain rfl := Option.some.inj H
        exact absurd hr_.out (by decide)
      ·
       rw [if_neg c47] at H
       have c47b0 : (t340 == 0) = false := beq_eq_false_iff_ne.mpr c47
       have c47b1 : (t340 != 0) = true := bne_iff_ne.mpr c47
       (first | rw [c47b0] | (simp only [i64_w, i32_w]; rw [c47b0]) | skip)
       have H' := Aside0.mk H
       clear H
       go_wp2
       go_meet
       case rel => exact ⟨_, H', ⟨by have := HJ13.out; first | omega | exact Nat.le_refl _⟩, ⟨by (with_reducible repeat (first | apply rA | apply rN | apply rD)); exact Kd.R_mono HO_3.out (fun _ hk => trivial)⟩, ⟨by repeat (first | (with_reducible first | exact HB.out | apply lA | apply lN | apply lD) | exact HB.out)⟩⟩
     case rest =>
      clear HC46
      try clear c1
      try clear c2
      try clear p2
      try clear c3
      try clear c4
      try clear c5
      try clear p6
      try clear c13
      try clear c19
      try clear c20
      try clear c21
      try clear c22
      try clear c23
      try clear c24
      try clear c25
      try clear c26
      try clear c27
      try clear c27b0
      try clear c27b1
      try clear c28
      try clear c28b0
      try clear c28b1
      try clear c29
      try clear c29b0
      try clear c29b1
      try clear c30
      try clear c30b0
      try clear c30b1
      try clear c31
      try clear c31b0
      try clear c31b1
      try clear c32
      try clear c32b0
      try clear c32b1
      try clear c33
      try clear c33b0
      try clear c33b1
      try clear c34
      try clear c34b0
      try clear c34b1
      try clear c35
      try clear c35b0
      try clear c35b1
      try clear c36
      try clear c36b0
      try clear c36b1
      try clear c37
      try clear c37b0
      try clear c37b1
      try clear c37b2
      try clear c38
      try clear c40
      try clear c40b0
      try clear c40b1
      try clear c40b2
      try clear c45
      try clear c46
      try clear c47
      try clear c47b0
      try clear c47b1
      try clear c49
      try clear c49b0
      try clear c49b1
      try clear c50
      try clear c50b0
      try clear c51
      try clear c51b0
      try clear c51b1
      try clear c51b2
      try clear c53
      try clear c53b0
      try clear c53b1
      try clear c53b2
      try clear p2
      obtain ⟨kq, HA, HJ45, HO_3, HB⟩ := hcut
      cases kq with
      | zero => exact absurd HA.out (by simp [laws_FnWinds.j1])
      | succ kj45 =>
       have H := HA.out
       clear HA
       simp only [laws_FnWinds.j1] at H
       by_cases c55 : t318 = 0
       ·
        rw [if_pos c55] at H
        have c55b0 : (t318 == 0) = true := beq_iff_eq.mpr c55
        have c55b1 : (t318 != 0) = false := bne_eq_false_iff_eq.mpr c55
        clear c55
        replace H := Option.bind_eq_some_iff.mp H
        obtain ⟨⟨t348, t349, t350⟩, A560, H⟩ := H
        replace H : ((laws_dice_below.f t348 t349 t350 (wrap64 (t313 + 1))).bind fun bt352 => ((impl_WindAt.f kj45 t312 bt352.1).bind fun bt355 => (if t322 ≤ t316 then (if t317 ≤ t323 then (if bt355.2.2 = 0 then (if t322 ≤ bt355.1 then (if bt355.2.1 ≤ t323 then (if t330 = 5 then (some true) else (if t330 = 0 then (if t316 ≤ t328 then (if t328 ≤ t329 then (if t329 ≤ t317 then (if bt355.1 ≤ t328 then (some (decide (t329 ≤ bt355.2.1))) else (some false)) else (some false)) else (some false)) else (some false)) else (some false))) else (some false)) else (some false)) else (some false)) else (some false)) else (some false)))) = some r := H
        have A56 := Aside0.mk A560
        clear A560
        replace H := Option.bind_eq_some_iff.mp H
        obtain ⟨⟨t352, t353, t354⟩, A570, H⟩ := H
        replace H : ((impl_WindAt.f kj45 t312 t352).bind fun bt355 => (if t322 ≤ t316 then (if t317 ≤ t323 then (if bt355.2.2 = 0 then (if t322 ≤ bt355.1 then (if bt355.2.1 ≤ t323 then (if t330 = 5 then (some true) else (if t330 = 0 then (if t316 ≤ t328 then (if t328 ≤ t329 then (if t329 ≤ t317 then (if bt355.1 ≤ t328 then (some (decide (t329 ≤ bt355.2.1))) else (some false)) else (some false)) else (some false)) else (some false)) else (some false))) else (some false)) else (some false)) else (some false)) else (some false)) else (some false))) = some r := H
        have A57 := Aside0.mk A570
        clear A570
        replace H := Option.bind_eq_some_iff.mp H
        obtain ⟨⟨t355, t356, t357⟩, A580, H⟩ := H
        replace H : (if t322 ≤ t316 then (if t317 ≤ t323 then (if t357 = 0 then (if t322 ≤ t355 then (if t356 ≤ t323 then (if t330 = 5 then (some true) else (if t330 = 0 then (if t316 ≤ t328 then (if t328 ≤ t329 then (if t329 ≤ t317 then (if t355 ≤ t328 then (some (decide (t329 ≤ t356))) else (some false)) else (some false)) else (some false)) else (some false)) else (some false))) else (some false)) else (some false)) else (some false)) else (some false)) else (some false)) = some r := H
        have A58 := Aside0.mk A580
        clear A580
        by_cases c59 : t322 ≤ t316
        ·
         rw [if_pos c59] at H
         have c59b0 : decide (t322 ≤ t316) = true := decide_eq_true c59
         clear c59
         by_cases c60 : t317 ≤ t323
         ·
          rw [if_pos c60] at H
          have c60b0 : decide (t317 ≤ t323) = true := decide_eq_true c60
          clear c60
          by_cases c61 : t357 = 0
          ·
           rw [if_pos c61] at H
           have c61b0 : (t357 == 0) = true := beq_iff_eq.mpr c61
           have c61b1 : (t357 != 0) = false := bne_eq_false_iff_eq.mpr c61
           clear c61
           by_cases c62 : t322 ≤ t355
           ·
            rw [if_pos c62] at H
            have c62b0 : decide (t322 ≤ t355) = true := decide_eq_true c62
            clear c62
            by_cases c63 : t356 ≤ t323
            ·
             rw [if_pos c63] at H
             have c63b0 : decide (t356 ≤ t323) = true := decide_eq_true c63
             clear c63
             by_cases c64 : t330 = 5
             ·
              rw [if_pos c64] at H
              have c64b0 : (t330 == 5) = true := beq_iff_eq.mpr c64
              have c64b1 : (t330 != 5) = false := bne_eq_false_iff_eq.mpr c64
              clear c64
              obtain rfl := Option.some.inj H
              simp only [Option.some.injEq, Prod.mk.injEq] at H
              obtain ⟨rfl⟩ := H
              go_wp2_with (first | ((with_reducible refine gate_callee (f := 41) rfl ?_); refine goesL_ (some 198) rfl rfl Try.func41 (by kernel_rfl) rfl #[.slice A0 l0.length c0, .int .u64 502] rfl (by (try simp only [List.map_toArray, List.map_cons, List.map_nil]); first | done | rfl | (go_simp; done) | simp) ?_; (with_reducible refine (laws_roll.calls kj45 _ _ l0 502 t348 t349 t350 w _ ?side1 ?side2 ?side3 A56.out).mono ?_); (case side1 => repeat (first | (with_reducible first | exact HB.out | apply lA | apply lN | apply lD) | exact HB.out)); (case side2 => exact HR0.out); (case side3 => exact HC0.out); rintro e w65 ⟨g351, rfl, hi, hb, hb2⟩; refine ⟨_, rfl, ?_⟩; have n0_ := Aside0.mk (Kd.R_below (by (with_reducible repeat (first | apply rA | apply rN | apply rD)); exact HO_3.out) hb2); have n1_ := Aside0.mk (hb); have n2_ := Aside0.mk (hi); clear HO_3; clear HB; have HO_3 := n0_; have HB := n1_; have HI351 := n2_; clear n0_ n1_ n2_; (try clear hb); (try clear hb2); (try clear hk); (try clear hi)) | ((with_reducible refine gate_callee (f := 42) rfl ?_); refine goesL_ (some 201) rfl rfl Try.func42 (by kernel_rfl) rfl #[.pointer (some ⟨g351, 0, none⟩), .int .i64 (wrap64 (t313 + 1))] rfl (by (try simp only [List.map_toArray, List.map_cons, List.map_nil]); first | done | rfl | (go_simp; done) | simp) ?_; (with_reducible refine (laws_dice_below.calls g351 t348 t349 t350 (wrap64 (t313 + 1)) t352 t353 t354 w _ ?side1 ?side2 A57.out).mono ?_); (case side1 => repeat (first | (with_reducible first | exact HI351.out | apply IsS79.alloc | apply IsS79.drewN | apply IsS79.drew | apply IsS79.set_1 | apply IsS79.set_2) | exact HI351.out)); (case side2 => repeat (first | (with_reducible first | exact HB.out | apply lA | apply lN | apply lD | refine below_set ?_ (IsS79.ge HI351.out)) | exact HB.out)); rintro e w66 ⟨rfl, hi, hb, hk⟩; refine ⟨_, rfl, ?_⟩; have n0_ := Aside0.mk (Kd.R_mono (Kd.R_keep (IsS79.apart (show IsS79 w _ g351 t348 t349 t350 from by repeat (first | (with_reducible first | exact HI351.out | apply IsS79.alloc | apply IsS79.drewN | apply IsS79.drew | apply IsS79.set_1 | apply IsS79.set_2) | exact HI351.out)) (by (with_reducible repeat (first | apply rA | apply rN | apply rD)); exact HO_3.out) (by decide)) hk (fun _ h => h.2)) (fun _ h => h.1)); have n1_ := Aside0.mk (hb); have n2_ := Aside0.mk (hi); clear HO_3; clear HB; clear HI351; have HO_3 := n0_; have HB := n1_; have HI351 := n2_; clear n0_ n1_ n2_; (try clear hb); (try clear hb2); (try clear hk); (try clear hi)) | ((with_reducible refine gate_callee (f := 20) rfl ?_); refine goesL_ (some 205) rfl rfl Try.func20 (by kernel_rfl) rfl #[.slice Ao16 t312.length co16, .int .i64 t352] rfl (by (try simp only [List.map_toArray, List.map_cons, List.map_nil]); first | done | rfl | (go_simp; done) | simp) ?_; (with_reducible refine (impl_WindAt.calls kj45 _ _ t312 t352 t355 t356 t357 _ ?side1 ?side2 A58.out).mono ?_); (case side1 => repeat (first | exact (Kd.R_reads' HO_3.out).2.2 | (with_reducible first | apply cA | apply cN | apply cD))); (case side2 => exact (Kd.R_reads' HO_3.out).2.1); rintro e w67 ⟨rfl, hb⟩; refine ⟨_, rfl, ?_⟩; have n0_ := Aside0.mk (Kd.R_below (by (with_reducible repeat (first | apply rA | apply rN | apply rD)); exact HO_3.out) hb); have n1_ := Aside0.mk (IsS79.below (by repeat (first | (with_reducible first | exact HI351.out | apply IsS79.alloc | apply IsS79.drewN | apply IsS79.drew | apply IsS79.set_1 | apply IsS79.set_2) | exact HI351.out)) hb); have n2_ := Aside0.mk (below_step (by repeat (first | (with_reducible first | exact HB.out | apply lA | apply lN | apply lD | refine below_set ?_ (IsS79.ge HI351.out)) | exact HB.out)) hb); clear HO_3; clear HI351; clear HB; have HO_3 := n0_; have HI351 := n1_; have HB := n2_; clear n0_ n1_ n2_; (try clear hb); (try clear hb2); (try clear hk); (try clear hi)))
              go_ret
              exact ⟨by first | rfl | (simp [errW_none, errW_some] <;> rfl) | (simp [*, errW_none, errW_some] <;> rfl), by repeat (first | (with_reducible first | exact HB.out | apply lA | apply lN | apply lD | refine below_set ?_ (IsS79.ge HI351.out)) | exact HB.out)⟩
             ·
              rw [if_neg c64] at H
              have c64b0 : (t330 == 5) = false := beq_eq_false_iff_ne.mpr c64
              have c64b1 : (t330 != 5) = true := bne_iff_ne.mpr c64
              by_cases c68 : t330 = 0
              ·
               rw [if_pos c68] at H
               have c68b0 : (t330 == 0) = true := beq_iff_eq.mpr c68
               have c68b1 : (t330 != 0) = false := bne_eq_false_iff_eq.mpr c68
               clear c68
               by_cases c69 : t316 ≤ t328
               ·
                rw [if_pos c69] at H
                have c69b0 : decide (t316 ≤ t328) = true := decide_eq_true c69
                clear c69
                by_cases c70 : t328 ≤ t329
                ·
                 rw [if_pos c70] at H
                 have c70b0 : decide (t328 ≤ t329) = true := decide_eq_true c70
                 clear c70
                 by_cases c71 : t329 ≤ t317
                 ·
                  rw [if_pos c71] at H
                  have c71b0 : decide (t329 ≤ t317) = true := decide_eq_true c71
                  clear c71
                  by_cases c72 : t355 ≤ t328
                  ·
                   rw [if_pos c72] at H
                   have c72b0 : decide (t355 ≤ t328) = true := decide_eq_true c72
                   clear c72
                   obtain rfl := Option.some.inj H
                   simp only [Option.some.injEq, Prod.mk.injEq] at H
                   obtain ⟨rfl⟩ := H
                   go_wp2_with (first | ((with_reducible refine gate_callee (f := 41) rfl ?_); refine goesL_ (some 198) rfl rfl Try.func41 (by kernel_rfl) rfl #[.slice A0 l0.length c0, .int .u64 502] rfl (by (try simp only [List.map_toArray, List.map_cons, List.map_nil]); first | done | rfl | (go_simp; done) | simp) ?_; (with_reducible refine (laws_roll.calls kj45 _ _ l0 502 t348 t349 t350 w _ ?side1 ?side2 ?side3 A56.out).mono ?_); (case side1 => repeat (first | (with_reducible first | exact HB.out | apply lA | apply lN | apply lD) | exact HB.out)); (case side2 => exact HR0.out); (case side3 => exact HC0.out); rintro e w73 ⟨g351, rfl, hi, hb, hb2⟩; refine ⟨_, rfl, ?_⟩; have n0_ := Aside0.mk (Kd.R_below (by (with_reducible repeat (first | apply rA | apply rN | apply rD)); exact HO_3.out) hb2); have n1_ := Aside0.mk (hb); have n2_ := Aside0.mk (hi); clear HO_3; clear HB; have HO_3 := n0_; have HB := n1_; have HI351 := n2_; clear n0_ n1_ n2_; (try clear hb); (try clear hb2); (try clear hk); (try clear hi)) | ((with_reducible refine gate_callee (f := 42) rfl ?_); refine goesL_ (some 201) rfl rfl Try.func42 (by kernel_rfl) rfl #[.pointer (some ⟨g351, 0, none⟩), .int .i64 (wrap64 (t313 + 1))] rfl (by (try simp only [List.map_toArray, List.map_cons, List.map_nil]); first | done | rfl | (go_simp; done) | simp) ?_; (with_reducible refine (laws_dice_below.calls g351 t348 t349 t350 (wrap64 (t313 + 1)) t352 t353 t354 w _ ?side1 ?side2 A57.out).mono ?_); (case side1 => repeat (first | (with_reducible first | exact HI351.out | apply IsS79.alloc | apply IsS79.drewN | apply IsS79.drew | apply IsS79.set_1 | apply IsS79.set_2) | exact HI351.out)); (case side2 => repeat (first | (with_reducible first | exact HB.out | apply lA | apply lN | apply lD | refine below_set ?_ (IsS79.ge HI351.out)) | exact HB.out)); rintro e w74 ⟨rfl, hi, hb, hk⟩; refine ⟨_, rfl, ?_⟩; have n0_ := Aside0.mk (Kd.R_mono (Kd.R_keep (IsS79.apart (show IsS79 w _ g351 t348 t349 t350 from by repeat (first | (with_reducible first | exact HI351.out | apply IsS79.alloc | apply IsS79.drewN | apply IsS79.drew | apply IsS79.set_1 | apply IsS79.set_2) | exact HI351.out)) (by (with_reducible repeat (first | apply rA | apply rN | apply rD)); exact HO_3.out) (by decide)) hk (fun _ h => h.2)) (fun _ h => h.1)); have n1_ := Aside0.mk (hb); have n2_ := Aside0.mk (hi); clear HO_3; clear HB; clear HI351; have HO_3 := n0_; have HB := n1_; have HI351 := n2_; clear n0_ n1_ n2_; (try clear hb); (try clear hb2); (try clear hk); (try clear hi)) | ((with_reducible refine gate_callee (f := 20) rfl ?_); refine goesL_ (some 205) rfl rfl Try.func20 (by kernel_rfl) rfl #[.slice Ao16 t312.length co16, .int .i64 t352] rfl (by (try simp only [List.map_toArray, List.map_cons, List.map_nil]); first | done | rfl | (go_simp; done) | simp) ?_; (with_reducible refine (impl_WindAt.calls kj45 _ _ t312 t352 t355 t356 t357 _ ?side1 ?side2 A58.out).mono ?_); (case side1 => repeat (first | exact (Kd.R_reads' HO_3.out).2.2 | (with_reducible first | apply cA | apply cN | apply cD))); (case side2 => exact (Kd.R_reads' HO_3.out).2.1); rintro e w75 ⟨rfl, hb⟩; refine ⟨_, rfl, ?_⟩; have n0_ := Aside0.mk (Kd.R_below (by (with_reducible repeat (first | apply rA | apply rN | apply rD)); exact HO_3.out) hb); have n1_ := Aside0.mk (IsS79.below (by repeat (first | (with_reducible first | exact HI351.out | apply IsS79.alloc | apply IsS79.drewN | apply IsS79.drew | apply IsS79.set_1 | apply IsS79.set_2) | exact HI351.out)) hb); have n2_ := Aside0.mk (below_step (by repeat (first | (with_reducible first | exact HB.out | apply lA | apply lN | apply lD | refine below_set ?_ (IsS79.ge HI351.out)) | exact HB.out)) hb); clear HO_3; clear HI351; clear HB; have HO_3 := n0_; have HI351 := n1_; have HB := n2_; clear n0_ n1_ n2_; (try clear hb); (try clear hb2); (try clear hk); (try clear hi)))
                   go_ret
                   exact ⟨by first | rfl | (simp [errW_none, errW_some] <;> rfl) | (simp [*, errW_none, errW_some] <;> rfl), by repeat (first | (with_reducible first | exact HB.out | apply lA | apply lN | apply lD | refine below_set ?_ (IsS79.ge HI351.out)) | exact HB.out)⟩
                  ·
                   rw [if_neg c72] at H
                   have c72b0 : decide (t355 ≤ t328) = false := decide_eq_false c72
                   clear c72
                   obtain rfl := Option.some.inj H
                   exact absurd hr_.out (by decide)
                 ·
                  rw [if_neg c71] at H
                  have c71b0 : decide (t329 ≤ t317) = false := decide_eq_false c71
                  clear c71
                  obtain rfl := Option.some.inj H
                  exact absurd hr_.out (by decide)
                ·
                 rw [if_neg c70] at H
                 have c70b0 : decide (t328 ≤ t329) = false := decide_eq_false c70
                 clear c70
                 obtain rfl := Option.some.inj H
                 exact absurd hr_.out (by decide)
               ·
                rw [if_neg c69] at H
                have c69b0 : decide (t316 ≤ t328) = false := decide_eq_false c69
                clear c69
                obtain rfl := Option.some.inj H
                exact absurd hr_.out (by decide)
              ·
               rw [if_neg c68] at H
               have c68b0 : (t330 == 0) = false := beq_eq_false_iff_ne.mpr c68
               have c68b1 : (t330 != 0) = true := bne_iff_ne.mpr c68
               obtain rfl := Option.some.inj H
               exact absurd hr_.out (by decide)
            ·
             rw [if_neg c63] at H
             have c63b0 : decide (t356 ≤ t323) = false := decide_eq_false c63
             clear c63
             obtain rfl := Option.some.inj H
             exact absurd hr_.out (by decide)
           ·
            rw [if_neg c62] at H
            have c62b0 : decide (t322 ≤ t355) = false := decide_eq_false c62
            clear c62
            obtain rfl := Option.some.inj H
            exact absurd hr_.out (by decide)
          ·
           rw [if_neg c61] at H
           have c61b0 : (t357 == 0) = false := beq_eq_false_iff_ne.mpr c61
           have c61b1 : (t357 != 0) = true := bne_iff_ne.mpr c61
           obtain rfl := Option.some.inj H
           exact absurd hr_.out (by decide)
         ·
          rw [if_neg c60] at H
          have c60b0 : decide (t317 ≤ t323) = false := decide_eq_false c60
          clear c60
          obtain rfl := Option.some.inj H
          exact absurd hr_.out (by decide)
        ·
         rw [if_neg c59] at H
         have c59b0 : decide (t322 ≤ t316) = false := decide_eq_false c59
         clear c59
         obtain rfl := Option.some.inj H
         exact absurd hr_.out (by decide)
       ·
        rw [if_neg c55] at H
        have c55b0 : (t318 == 0) = false := beq_eq_false_iff_ne.mpr c55
        have c55b1 : (t318 != 0) = true := bne_iff_ne.mpr c55
        obtain rfl := Option.some.inj H
        simp only [Option.some.injEq, Prod.mk.injEq] at H
        obtain ⟨rfl⟩ := H
        go_wp2
        go_ret
        exact ⟨by first | rfl | (simp [errW_none, errW_some] <;> rfl) | (simp [*, errW_none, errW_some] <;> rfl), by repeat (first | (with_reducible first | exact HB.out | apply lA | apply lN | apply lD) | exact HB.out)⟩

/-- THE ONE PURE STATEMENT of laws_FnWinds: yours. -/
def laws_FnWinds.Pure : Prop := ∀ (l0 : List Int), l0.length ≤ maxLen → l0.length * 1 ≤ 140737488351232 → (∀ x ∈ l0, (Lit.int .u8 x).wf = true) → ∃ k, laws_FnWinds.f k l0 = some true
theorem laws_FnWinds.walk (P : laws_FnWinds.Pure) (a0 : Option Addr) (len0 cap0 : Nat) (z0 : List Int) (w : World) (w0 : (a0 = none ∧ len0 = 0 ∧ cap0 = 0 ∧ z0 = []) ∨ ∃ x, a0 = some x ∧ len0 ≤ cap0 ∧ cap0 ≤ maxLen ∧ z0.length = cap0 ∧ (∀ i, i < z0.length → w.cell? (x.add i) = some (.int .u8 (z0.getD i 0))) ∧ ∀ n ∈ z0, (Lit.int .u8 n).wf = true) (y0 : len0 * 1 ≤ 140737488351232) :
  Calls Try.prog 13 #[.slice a0 len0 cap0] w fun e w' => e = .returned (.bool true) ∧ Below w.heap.size w w' := by
 obtain ⟨l0, rfl, hr0, hm0, hw0, hc0⟩ := ReadsInt.ofRowC w0
 obtain ⟨k, h⟩ := P l0 hm0 y0 hw0
 refine (laws_FnWinds.calls k _ _ l0 true w (Kd.C_of_reads (d := (0 : Int)) (h1 := fun _ => rfl) hr0) hc0 h ⟨rfl⟩).mono ?_
 rintro e w' ⟨rfl, hd⟩
 exact ⟨rfl, hd⟩

end Go.Proofs.Ytidibjmckgbpbaa.QFnWinds
