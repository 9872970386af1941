-- Written by a program of this project's session, after the kit's print (a turned copy of its programs). Lean checks it.
import Derived.Test.YtpkadlgnkcbcbaaQFnRatioTextsx0
import Derived.Test.YtpkadlgnkcbcbaaQFnRatioTextsx1
import Derived.Test.YtpkadlgnkcbcbaaQFnRatioTextsx2
import Derived.Test.YtpkadlgnkcbcbaaQFnRatioTextsx3
import Derived.Test.YtpkadlgnkcbcbaaQFnRatioTextsx5
import Derived.Test.YtpkadlgnkcbcbaaQFnRatioTextsx6
import Derived.Test.YtpkadlgnkcbcbaaQFnRatioTextsx8
import Derived.Test.YtpkadlgnkcbcbaaQFnRatioTextsx9
namespace Go.Proofs.Ytpkadlgnkcbcbaa.QFnRatioTexts
open Go.RowKit Go.Proofs.YtpkadlgnkcbcbaaW.PrintWords Go.Proofs.YtpkadlgnkcbcbaaW.PrintLast Go.Proofs.YtpkadlgnkcbcbaaW.PrintMore
attribute [local go_sem] max2_int min2_int max_two min_two max_three min_three max_four min_four   -- for this text's walks alone
set_option linter.unusedVariables false
set_option linter.unusedSimpArgs false

attribute [local go_sem high] eqA25
/-! ### laws_FnRatioTexts: function 14 -/
mutual
def laws_FnRatioTexts.j0 : Nat → ByteArray → Int → ByteArray → Int → Bool → Int → Int → Int → Int → Option (Bool)
  | 0, _, _, _, _, _, _, _, _, _ => none
  | k + 1, x4, x5, x8, x10, x68, x302000, x302001, x311000, x311001 => if x68 = true then (some false) else (if x10 = 0 then ((impl_RatioText.f k x311000 x311001).bind fun bt316 => (if bt316.2 = 0 then (laws_FnRatioTexts.j1 k x4 x5 (bt316.1.toList != x8.toList) x302000 x302001) else (laws_FnRatioTexts.j1 k x4 x5 true x302000 x302001))) else (if x5 = 0 then ((impl_ReadRatio.f k x4).bind fun bt322 => (if bt322.2.2 = 0 then (some (bt322.1 == x302000 && (bt322.2.1 == x302001))) else (some false))) else (some true)))
def laws_FnRatioTexts.j1 : Nat → ByteArray → Int → Bool → Int → Int → Option (Bool)
  | 0, _, _, _, _, _ => none
  | k + 1, x4, x5, x82, x302000, x302001 => if x82 = true then (some false) else (if x5 = 0 then ((impl_ReadRatio.f k x4).bind fun bt318 => (if bt318.2.2 = 0 then (some (bt318.1 == x302000 && (bt318.2.1 == x302001))) else (some false))) else (some true))
end
def laws_FnRatioTexts.f (k : Nat) (l0 : List Int) : Option (Bool) := (laws_big.f l0).bind fun t298 => (if t298 = true then (some true) else ((spec_DrawRatioText.f k l0).bind fun bt299 => ((impl_RatioText.f k bt299.1 bt299.2).bind fun bt302 => ((spec_RatioText.f k bt299.1 bt299.2).bind fun bt304 => ((spec_DrawReadRatio.f k l0).bind fun t306 => ((impl_ReadRatio.f k t306).bind fun bt307 => ((spec_ReadRatio.f k t306).bind fun bt311 => (if bt302.2 = bt304.2 then (if bt302.1.toList = bt304.1.toList then (if bt307.2.2 = bt311.2.2 then (if ((bt307.1 == bt311.1 && (bt307.2.1 == bt311.2.1)) = true) then ((impl_IsRatio.f k bt299.1 bt299.2).bind fun t315 => (laws_FnRatioTexts.j0 k bt302.1 bt302.2 t306 bt307.2.2 (t315 != (bt304.2 == 0)) bt299.1 bt299.2 bt307.1 bt307.2.1)) else (laws_FnRatioTexts.j0 k bt302.1 bt302.2 t306 bt307.2.2 true bt299.1 bt299.2 bt307.1 bt307.2.1)) else (laws_FnRatioTexts.j0 k bt302.1 bt302.2 t306 bt307.2.2 true bt299.1 bt299.2 bt307.1 bt307.2.1)) else (laws_FnRatioTexts.j0 k bt302.1 bt302.2 t306 bt307.2.2 true bt299.1 bt299.2 bt307.1 bt307.2.1)) else (laws_FnRatioTexts.j0 k bt302.1 bt302.2 t306 bt307.2.2 true bt299.1 bt299.2 bt307.1 bt307.2.1)))))))))
theorem laws_FnRatioTexts.mono_l : ∀ k, (∀ y0 y1 y2 y3 y4 y5 y6 y7 y8, LeO (laws_FnRatioTexts.j0 k y0 y1 y2 y3 y4 y5 y6 y7 y8) (laws_FnRatioTexts.j0 (k + 1) y0 y1 y2 y3 y4 y5 y6 y7 y8)) ∧ (∀ y0 y1 y2 y3 y4, LeO (laws_FnRatioTexts.j1 k y0 y1 y2 y3 y4) (laws_FnRatioTexts.j1 (k + 1) y0 y1 y2 y3 y4))
  | 0 => ⟨fun _ _ _ _ _ _ _ _ _ r h => by simp [laws_FnRatioTexts.j0] at h, fun _ _ _ _ _ r h => by simp [laws_FnRatioTexts.j1] at h⟩
  | k + 1 => by
    obtain ⟨ih0, ih1⟩ := laws_FnRatioTexts.mono_l k
    refine ⟨?_, ?_⟩
    · intro y0 y1 y2 y3 y4 y5 y6 y7 y8
      unfold laws_FnRatioTexts.j0
      repeat' first
      | (with_reducible exact ih0 _ _ _ _ _ _ _ _ _)
      | (with_reducible exact ih1 _ _ _ _ _)
      | (with_reducible exact impl_IsRatio.mono _ _ _)
      | (with_reducible exact impl_RatioText.mono _ _ _)
      | (with_reducible exact impl_ReadRatio.mono _ _)
      | (with_reducible exact spec_DrawRatioText.mono _ _)
      | (with_reducible exact spec_DrawReadRatio.mono _ _)
      | (with_reducible exact spec_RatioText.mono _ _ _)
      | (with_reducible exact spec_ReadRatio.mono _ _)
      | (with_reducible exact LeO.refl _)
      | (with_reducible exact LeO.none _)
      | (with_reducible refine LeO.ite ?_ ?_)
      | (with_reducible refine LeO.bind ?_ (fun _ => ?_))
      | exact ih0 _ _ _ _ _ _ _ _ _
      | exact ih1 _ _ _ _ _
      | exact impl_IsRatio.mono _ _ _
      | exact impl_RatioText.mono _ _ _
      | exact impl_ReadRatio.mono _ _
      | exact spec_DrawRatioText.mono _ _
      | exact spec_DrawReadRatio.mono _ _
      | exact spec_RatioText.mono _ _ _
      | exact spec_ReadRatio.mono _ _
      | exact LeO.none _
      | refine LeO.ite ?_ ?_
      | refine LeO.bind ?_ (fun _ => ?_)
    · intro y0 y1 y2 y3 y4
      unfold laws_FnRatioTexts.j1
      repeat' first
      | (with_reducible exact ih0 _ _ _ _ _ _ _ _ _)
      | (with_reducible exact ih1 _ _ _ _ _)
      | (with_reducible exact impl_IsRatio.mono _ _ _)
      | (with_reducible exact impl_RatioText.mono _ _ _)
      | (with_reducible exact impl_ReadRatio.mono _ _)
      | (with_reducible exact spec_DrawRatioText.mono _ _)
      | (with_reducible exact spec_DrawReadRatio.mono _ _)
      | (with_reducible exact spec_RatioText.mono _ _ _)
      | (with_reducible exact spec_ReadRatio.mono _ _)
      | (with_reducible exact LeO.refl _)
      | (with_reducible exact LeO.none _)
      | (with_reducible refine LeO.ite ?_ ?_)
      | (with_reducible refine LeO.bind ?_ (fun _ => ?_))
      | exact ih0 _ _ _ _ _ _ _ _ _
      | exact ih1 _ _ _ _ _
      | exact impl_IsRatio.mono _ _ _
      | exact impl_RatioText.mono _ _ _
      | exact impl_ReadRatio.mono _ _
      | exact spec_DrawRatioText.mono _ _
      | exact spec_DrawReadRatio.mono _ _
      | exact spec_RatioText.mono _ _ _
      | exact spec_ReadRatio.mono _ _
      | exact LeO.none _
      | refine LeO.ite ?_ ?_
      | refine LeO.bind ?_ (fun _ => ?_)
theorem laws_FnRatioTexts.mono : ∀ a0 k, LeO (laws_FnRatioTexts.f k a0) (laws_FnRatioTexts.f (k + 1) a0) := by
  intro a0 k
  obtain ⟨ih0, ih1⟩ := laws_FnRatioTexts.mono_l k
  unfold laws_FnRatioTexts.f
  repeat' first
      | (with_reducible exact ih0 _ _ _ _ _ _ _ _ _)
      | (with_reducible exact ih1 _ _ _ _ _)
      | (with_reducible exact impl_IsRatio.mono _ _ _)
      | (with_reducible exact impl_RatioText.mono _ _ _)
      | (with_reducible exact impl_ReadRatio.mono _ _)
      | (with_reducible exact spec_DrawRatioText.mono _ _)
      | (with_reducible exact spec_DrawReadRatio.mono _ _)
      | (with_reducible exact spec_RatioText.mono _ _ _)
      | (with_reducible exact spec_ReadRatio.mono _ _)
      | (with_reducible exact LeO.refl _)
      | (with_reducible exact LeO.none _)
      | (with_reducible refine LeO.ite ?_ ?_)
      | (with_reducible refine LeO.bind ?_ (fun _ => ?_))
      | exact ih0 _ _ _ _ _ _ _ _ _
      | exact ih1 _ _ _ _ _
      | exact impl_IsRatio.mono _ _ _
      | exact impl_RatioText.mono _ _ _
      | exact impl_ReadRatio.mono _ _
      | exact spec_DrawRatioText.mono _ _
      | exact spec_DrawReadRatio.mono _ _
      | exact spec_RatioText.mono _ _ _
      | exact spec_ReadRatio.mono _ _
      | exact LeO.none _
      | refine LeO.ite ?_ ?_
      | refine LeO.bind ?_ (fun _ => ?_)
set_option maxHeartbeats 8000000 in
set_option maxRecDepth 100000 in
theorem laws_FnRatioTexts.calls (k : Nat) (A0 : Option Addr) (c0 : Nat) (l0 : List Int) (r : Bool) (w : World) (hr0 : Kd.C (Kd.int .u8) w A0 l0.length l0) (hc0 : l0.length ≤ c0) (h : laws_FnRatioTexts.f k l0 = some r) (hr_ : Aside0 (r = true)) :
    Calls Try.prog 14 #[.slice A0 l0.length c0] w fun e w' => e = .returned (.bool r) ∧ Below w.heap.size w w' := by
  have hu25 := Try.underlying25
  have HR0 := Aside0.mk hr0
  have HC0 := Aside0.mk hc0
  clear hr0 hc0
  have HB := Aside0.mk (Below.refl w.heap.size w)
  have H : ((laws_big.f l0).bind fun t298 => (if t298 = true then (some true) else ((spec_DrawRatioText.f k l0).bind fun bt299 => ((impl_RatioText.f k bt299.1 bt299.2).bind fun bt302 => ((spec_RatioText.f k bt299.1 bt299.2).bind fun bt304 => ((spec_DrawReadRatio.f k l0).bind fun t306 => ((impl_ReadRatio.f k t306).bind fun bt307 => ((spec_ReadRatio.f k t306).bind fun bt311 => (if bt302.2 = bt304.2 then (if bt302.1.toList = bt304.1.toList then (if bt307.2.2 = bt311.2.2 then (if ((bt307.1 == bt311.1 && (bt307.2.1 == bt311.2.1)) = true) then ((impl_IsRatio.f k bt299.1 bt299.2).bind fun t315 => (laws_FnRatioTexts.j0 k bt302.1 bt302.2 t306 bt307.2.2 (t315 != (bt304.2 == 0)) bt299.1 bt299.2 bt307.1 bt307.2.1)) else (laws_FnRatioTexts.j0 k bt302.1 bt302.2 t306 bt307.2.2 true bt299.1 bt299.2 bt307.1 bt307.2.1)) else (laws_FnRatioTexts.j0 k bt302.1 bt302.2 t306 bt307.2.2 true bt299.1 bt299.2 bt307.1 bt307.2.1)) else (laws_FnRatioTexts.j0 k bt302.1 bt302.2 t306 bt307.2.2 true bt299.1 bt299.2 bt307.1 bt307.2.1)) else (laws_FnRatioTexts.j0 k bt302.1 bt302.2 t306 bt307.2.2 true bt299.1 bt299.2 bt307.1 bt307.2.1)))))))))) = some r := h
  clear h
  replace H := Option.bind_eq_some_iff.mp H
  obtain ⟨t298, A20, H⟩ := H
  replace H : (if t298 = true then (some true) else ((spec_DrawRatioText.f k l0).bind fun bt299 => ((impl_RatioText.f k bt299.1 bt299.2).bind fun bt302 => ((spec_RatioText.f k bt299.1 bt299.2).bind fun bt304 => ((spec_DrawReadRatio.f k l0).bind fun t306 => ((impl_ReadRatio.f k t306).bind fun bt307 => ((spec_ReadRatio.f k t306).bind fun bt311 => (if bt302.2 = bt304.2 then (if bt302.1.toList = bt304.1.toList then (if bt307.2.2 = bt311.2.2 then (if ((bt307.1 == bt311.1 && (bt307.2.1 == bt311.2.1)) = true) then ((impl_IsRatio.f k bt299.1 bt299.2).bind fun t315 => (laws_FnRatioTexts.j0 k bt302.1 bt302.2 t306 bt307.2.2 (t315 != (bt304.2 == 0)) bt299.1 bt299.2 bt307.1 bt307.2.1)) else (laws_FnRatioTexts.j0 k bt302.1 bt302.2 t306 bt307.2.2 true bt299.1 bt299.2 bt307.1 bt307.2.1)) else (laws_FnRatioTexts.j0 k bt302.1 bt302.2 t306 bt307.2.2 true bt299.1 bt299.2 bt307.1 bt307.2.1)) else (laws_FnRatioTexts.j0 k bt302.1 bt302.2 t306 bt307.2.2 true bt299.1 bt299.2 bt307.1 bt307.2.1)) else (laws_FnRatioTexts.j0 k bt302.1 bt302.2 t306 bt307.2.2 true bt299.1 bt299.2 bt307.1 bt307.2.1))))))))) = some r := H
  have A2 := Aside0.mk A20
  clear A20
  by_cases c3 : t298 = true
  · subst c3
    have H1 : (some true) = some r := by rw [if_pos rfl] at H; exact H
    clear H
    have H := H1
    clear H1
    obtain rfl := Option.some.inj H
    simp only [Option.some.injEq, Prod.mk.injEq] at H
    obtain ⟨rfl⟩ := H
    go_enter Try.func14, Try.ntmps14
    go_wp2_with (first | ((with_reducible refine gate_callee (f := 35) rfl ?_); refine goesL_ (some 18) rfl rfl Try.func35 (by kernel_rfl) rfl #[.slice A0 l0.length c0] rfl (by (try simp only [List.map_toArray, List.map_cons, List.map_nil]); first | done | rfl | (simp only [List.length_drop, List.length_take]; rfl) | (go_simp; done) | (simp; done) | (simp; rfl)) ?_; (with_reducible refine (laws_big.calls _ _ l0 true _ ?side1 ?side2 A2.out).mono ?_); (case side1 => repeat (first | exact HR0.out | (with_reducible refine Kd.C_alloc ?_ _) | (with_reducible refine Kd.C_drewN ?_ _) | (with_reducible refine Kd.C_drew ?_))); (case side2 => exact HC0.out); rintro e w' ⟨rfl, ⟨nd, rfl⟩⟩; refine ⟨_, rfl, ?_⟩))
    go_ret
    exact ⟨by first | rfl | (simp [errW_none, errW_some] <;> rfl) | (simp [*, errW_none, errW_some] <;> rfl), by repeat (first | (with_reducible first | exact HB.out | apply below_alloc | apply pw_below_drewN | apply below_drew1) | exact HB.out)⟩
  · replace c3 := Bool.eq_false_iff.mpr c3
    subst c3
    have H1 : ((spec_DrawRatioText.f k l0).bind fun bt299 => ((impl_RatioText.f k bt299.1 bt299.2).bind fun bt302 => ((spec_RatioText.f k bt299.1 bt299.2).bind fun bt304 => ((spec_DrawReadRatio.f k l0).bind fun t306 => ((impl_ReadRatio.f k t306).bind fun bt307 => ((spec_ReadRatio.f k t306).bind fun bt311 => (if bt302.2 = bt304.2 then (if bt302.1.toList = bt304.1.toList then (if bt307.2.2 = bt311.2.2 then (if ((bt307.1 == bt311.1 && (bt307.2.1 == bt311.2.1)) = true) then ((impl_IsRatio.f k bt299.1 bt299.2).bind fun t315 => (laws_FnRatioTexts.j0 k bt302.1 bt302.2 t306 bt307.2.2 (t315 != (bt304.2 == 0)) bt299.1 bt299.2 bt307.1 bt307.2.1)) else (laws_FnRatioTexts.j0 k bt302.1 bt302.2 t306 bt307.2.2 true bt299.1 bt299.2 bt307.1 bt307.2.1)) else (laws_FnRatioTexts.j0 k bt302.1 bt302.2 t306 bt307.2.2 true bt299.1 bt299.2 bt307.1 bt307.2.1)) else (laws_FnRatioTexts.j0 k bt302.1 bt302.2 t306 bt307.2.2 true bt299.1 bt299.2 bt307.1 bt307.2.1)) else (laws_FnRatioTexts.j0 k bt302.1 bt302.2 t306 bt307.2.2 true bt299.1 bt299.2 bt307.1 bt307.2.1)))))))) = some r := by rw [if_neg (show ¬ (false = true) by decide)] at H; exact H
    clear H
    have H := H1
    clear H1
    replace H := Option.bind_eq_some_iff.mp H
    obtain ⟨⟨t299, t300⟩, A40, H⟩ := H
    replace H : ((impl_RatioText.f k t299 t300).bind fun bt302 => ((spec_RatioText.f k t299 t300).bind fun bt304 => ((spec_DrawReadRatio.f k l0).bind fun t306 => ((impl_ReadRatio.f k t306).bind fun bt307 => ((spec_ReadRatio.f k t306).bind fun bt311 => (if bt302.2 = bt304.2 then (if bt302.1.toList = bt304.1.toList then (if bt307.2.2 = bt311.2.2 then (if ((bt307.1 == bt311.1 && (bt307.2.1 == bt311.2.1)) = true) then ((impl_IsRatio.f k t299 t300).bind fun t315 => (laws_FnRatioTexts.j0 k bt302.1 bt302.2 t306 bt307.2.2 (t315 != (bt304.2 == 0)) t299 t300 bt307.1 bt307.2.1)) else (laws_FnRatioTexts.j0 k bt302.1 bt302.2 t306 bt307.2.2 true t299 t300 bt307.1 bt307.2.1)) else (laws_FnRatioTexts.j0 k bt302.1 bt302.2 t306 bt307.2.2 true t299 t300 bt307.1 bt307.2.1)) else (laws_FnRatioTexts.j0 k bt302.1 bt302.2 t306 bt307.2.2 true t299 t300 bt307.1 bt307.2.1)) else (laws_FnRatioTexts.j0 k bt302.1 bt302.2 t306 bt307.2.2 true t299 t300 bt307.1 bt307.2.1))))))) = some r := H
    have A4 := Aside0.mk A40
    clear A40
    replace H := Option.bind_eq_some_iff.mp H
    obtain ⟨⟨t302, t303⟩, A50, H⟩ := H
    replace H : ((spec_RatioText.f k t299 t300).bind fun bt304 => ((spec_DrawReadRatio.f k l0).bind fun t306 => ((impl_ReadRatio.f k t306).bind fun bt307 => ((spec_ReadRatio.f k t306).bind fun bt311 => (if t303 = bt304.2 then (if t302.toList = bt304.1.toList then (if bt307.2.2 = bt311.2.2 then (if ((bt307.1 == bt311.1 && (bt307.2.1 == bt311.2.1)) = true) then ((impl_IsRatio.f k t299 t300).bind fun t315 => (laws_FnRatioTexts.j0 k t302 t303 t306 bt307.2.2 (t315 != (bt304.2 == 0)) t299 t300 bt307.1 bt307.2.1)) else (laws_FnRatioTexts.j0 k t302 t303 t306 bt307.2.2 true t299 t300 bt307.1 bt307.2.1)) else (laws_FnRatioTexts.j0 k t302 t303 t306 bt307.2.2 true t299 t300 bt307.1 bt307.2.1)) else (laws_FnRatioTexts.j0 k t302 t303 t306 bt307.2.2 true t299 t300 bt307.1 bt307.2.1)) else (laws_FnRatioTexts.j0 k t302 t303 t306 bt307.2.2 true t299 t300 bt307.1 bt307.2.1)))))) = some r := H
    have A5 := Aside0.mk A50
    clear A50
    replace H := Option.bind_eq_some_iff.mp H
    obtain ⟨⟨t304, t305⟩, A60, H⟩ := H
    replace H : ((spec_DrawReadRatio.f k l0).bind fun t306 => ((impl_ReadRatio.f k t306).bind fun bt307 => ((spec_ReadRatio.f k t306).bind fun bt311 => (if t303 = t305 then (if t302.toList = t304.toList then (if bt307.2.2 = bt311.2.2 then (if ((bt307.1 == bt311.1 && (bt307.2.1 == bt311.2.1)) = true) then ((impl_IsRatio.f k t299 t300).bind fun t315 => (laws_FnRatioTexts.j0 k t302 t303 t306 bt307.2.2 (t315 != (t305 == 0)) t299 t300 bt307.1 bt307.2.1)) else (laws_FnRatioTexts.j0 k t302 t303 t306 bt307.2.2 true t299 t300 bt307.1 bt307.2.1)) else (laws_FnRatioTexts.j0 k t302 t303 t306 bt307.2.2 true t299 t300 bt307.1 bt307.2.1)) else (laws_FnRatioTexts.j0 k t302 t303 t306 bt307.2.2 true t299 t300 bt307.1 bt307.2.1)) else (laws_FnRatioTexts.j0 k t302 t303 t306 bt307.2.2 true t299 t300 bt307.1 bt307.2.1))))) = some r := H
    have A6 := Aside0.mk A60
    clear A60
    replace H := Option.bind_eq_some_iff.mp H
    obtain ⟨t306, A70, H⟩ := H
    replace H : ((impl_ReadRatio.f k t306).bind fun bt307 => ((spec_ReadRatio.f k t306).bind fun bt311 => (if t303 = t305 then (if t302.toList = t304.toList then (if bt307.2.2 = bt311.2.2 then (if ((bt307.1 == bt311.1 && (bt307.2.1 == bt311.2.1)) = true) then ((impl_IsRatio.f k t299 t300).bind fun t315 => (laws_FnRatioTexts.j0 k t302 t303 t306 bt307.2.2 (t315 != (t305 == 0)) t299 t300 bt307.1 bt307.2.1)) else (laws_FnRatioTexts.j0 k t302 t303 t306 bt307.2.2 true t299 t300 bt307.1 bt307.2.1)) else (laws_FnRatioTexts.j0 k t302 t303 t306 bt307.2.2 true t299 t300 bt307.1 bt307.2.1)) else (laws_FnRatioTexts.j0 k t302 t303 t306 bt307.2.2 true t299 t300 bt307.1 bt307.2.1)) else (laws_FnRatioTexts.j0 k t302 t303 t306 bt307.2.2 true t299 t300 bt307.1 bt307.2.1)))) = some r := H
    have A7 := Aside0.mk A70
    clear A70
    replace H := Option.bind_eq_some_iff.mp H
    obtain ⟨⟨t307, t308, t309⟩, A80, H⟩ := H
    replace H : ((spec_ReadRatio.f k t306).bind fun bt311 => (if t303 = t305 then (if t302.toList = t304.toList then (if t309 = bt311.2.2 then (if ((t307 == bt311.1 && (t308 == bt311.2.1)) = true) then ((impl_IsRatio.f k t299 t300).bind fun t315 => (laws_FnRatioTexts.j0 k t302 t303 t306 t309 (t315 != (t305 == 0)) t299 t300 t307 t308)) else (laws_FnRatioTexts.j0 k t302 t303 t306 t309 true t299 t300 t307 t308)) else (laws_FnRatioTexts.j0 k t302 t303 t306 t309 true t299 t300 t307 t308)) else (laws_FnRatioTexts.j0 k t302 t303 t306 t309 true t299 t300 t307 t308)) else (laws_FnRatioTexts.j0 k t302 t303 t306 t309 true t299 t300 t307 t308))) = some r := H
    have A8 := Aside0.mk A80
    clear A80
    replace H := Option.bind_eq_some_iff.mp H
    obtain ⟨⟨t311, t312, t313⟩, A90, H⟩ := H
    replace H : (if t303 = t305 then (if t302.toList = t304.toList then (if t309 = t313 then (if ((t307 == t311 && (t308 == t312)) = true) then ((impl_IsRatio.f k t299 t300).bind fun t315 => (laws_FnRatioTexts.j0 k t302 t303 t306 t309 (t315 != (t305 == 0)) t299 t300 t307 t308)) else (laws_FnRatioTexts.j0 k t302 t303 t306 t309 true t299 t300 t307 t308)) else (laws_FnRatioTexts.j0 k t302 t303 t306 t309 true t299 t300 t307 t308)) else (laws_FnRatioTexts.j0 k t302 t303 t306 t309 true t299 t300 t307 t308)) else (laws_FnRatioTexts.j0 k t302 t303 t306 t309 true t299 t300 t307 t308)) = some r := H
    have A9 := Aside0.mk A90
    clear A90
    have HC10 := Aside0.mk H
    clear H
    go_enter Try.func14, Try.ntmps14
    go_upto_region 9 with (first | ((with_reducible refine gate_callee (f := 35) rfl ?_); refine goesL_ (some 18) rfl rfl Try.func35 (by kernel_rfl) rfl #[.slice A0 l0.length c0] rfl (by (try simp only [List.map_toArray, List.map_cons, List.map_nil]); first | done | rfl | (simp only [List.length_drop, List.length_take]; rfl) | (go_simp; done) | (simp; done) | (simp; rfl)) ?_; (with_reducible refine (laws_big.calls _ _ l0 false _ ?side1 ?side2 A2.out).mono ?_); (case side1 => repeat (first | exact HR0.out | (with_reducible refine Kd.C_alloc ?_ _) | (with_reducible refine Kd.C_drewN ?_ _) | (with_reducible refine Kd.C_drew ?_))); (case side2 => exact HC0.out); rintro e w' ⟨rfl, ⟨nd, rfl⟩⟩; refine ⟨_, rfl, ?_⟩) | ((with_reducible refine gate_callee (f := 40) rfl ?_); refine goesL_ (some 20) rfl rfl Try.func40 (by kernel_rfl) rfl #[.slice A0 l0.length c0] rfl (by (try simp only [List.map_toArray, List.map_cons, List.map_nil]); first | done | rfl | (simp only [List.length_drop, List.length_take]; rfl) | (go_simp; done) | (simp; done) | (simp; rfl)) ?_; (with_reducible refine (spec_DrawRatioText.calls k _ _ l0 t299 t300 _ ?side1 ?side2 A4.out).mono ?_); (case side1 => repeat (first | exact HR0.out | (with_reducible refine Kd.C_alloc ?_ _) | (with_reducible refine Kd.C_drewN ?_ _) | (with_reducible refine Kd.C_drew ?_))); (case side2 => exact HC0.out); rintro e w11 ⟨rfl, hb⟩; refine ⟨_, rfl, ?_⟩; have n0_ := Aside0.mk (below_step (by repeat (first | (with_reducible first | exact HB.out | apply below_alloc | apply pw_below_drewN | apply below_drew1) | exact HB.out)) hb); clear HB; have HB := n0_; clear n0_; (try clear hb); (try clear hb2); (try clear hk); (try clear hi)) | ((with_reducible refine gate_dst (N := 3) rfl ?_); refine box_event ?hg (N := 3) ?hd (cs := #[.int .i64 0, .int .i64 0]) (t := 25) ?hr ?_; (case hd => rfl); (case hg => rfl); (case hr => first | (go_simp; done) | (go_simp; rfl)); intro gb301 hg w12 hbox hb; have n0_ := Aside0.mk (below_step (by repeat (first | (with_reducible first | exact HB.out | apply below_alloc | apply pw_below_drewN | apply below_drew1) | exact HB.out)) hb); have n1_ := Aside0.mk (hbox); have n2_ := Aside0.mk ((by rw [hg]; exact (below_size (by repeat (first | (with_reducible first | exact HB.out | apply below_alloc | apply pw_below_drewN | apply below_drew1) | exact HB.out))) : w.heap.size ≤ gb301)); have n3_ := Aside0.mk ((by rw [hg]; exact (below_size (by repeat (first | (with_reducible first | exact HB.out | apply below_alloc | apply pw_below_drewN | apply below_drew1) | exact HB.out))) : w.heap.size ≤ gb301)); clear HB; have HB := n0_; have BK301 := n1_; have GW301 := n2_; have GE301 := n3_; clear n0_ n1_ n2_ n3_; clear hb hbox hg; have hcz13_0 : w12.cell? ⟨gb301, 0, none⟩ = some (.int .i64 0) := (blk_cell BK301.out 0).trans rfl; have hcz13_1 : w12.cell? ⟨gb301, 1, none⟩ = some (.int .i64 0) := (blk_cell BK301.out 1).trans rfl; have hfz13_0 := blk_frozen BK301.out 0; have hfz13_1 := blk_frozen BK301.out 1) | ((with_reducible refine gate_callee (f := 23) rfl ?_); refine goesL_ (some 23) rfl rfl Try.func23 (by kernel_rfl) rfl #[.agg #[.int .i64 t299, .int .i64 t300]] rfl (by (try simp only [List.map_toArray, List.map_cons, List.map_nil]); first | done | rfl | (simp only [List.length_drop, List.length_take]; rfl) | (go_simp; done) | (simp; done) | (simp; rfl)) ?_; (with_reducible refine (impl_RatioText.calls k t299 t300 t302 t303 _ A5.out).mono ?_); rintro e w14 ⟨rfl, hb⟩; refine ⟨_, rfl, ?_⟩; have n0_ := Aside0.mk (blk_below (g := gb301) (o := .cells #[.int .i64 t299, .int .i64 t300] 25 (0, 0)) (by (with_reducible repeat (first | refine blk_drewN ?_ _ | refine blk_drew ?_ | refine blk_alloc ?_ _)); refine blk_put (cs := #[.int .i64 t299, .int .i64 0]) ?_ 1 _ rfl; (with_reducible repeat (first | refine blk_drewN ?_ _ | refine blk_drew ?_ | refine blk_alloc ?_ _)); refine blk_put (cs := #[.int .i64 0, .int .i64 0]) ?_ 0 _ rfl; (with_reducible repeat (first | refine blk_drewN ?_ _ | refine blk_drew ?_ | refine blk_alloc ?_ _)); exact BK301.out) hb); have n1_ := Aside0.mk (below_step (by repeat (first | (with_reducible first | exact HB.out | apply below_alloc | apply pw_below_drewN | apply below_drew1 | refine below_set ?_ GE301.out) | exact HB.out)) hb); clear BK301; clear HB; have BK301 := n0_; have HB := n1_; clear n0_ n1_; (try clear hb); (try clear hb2); (try clear hk); (try clear hi); have hcz15_0 : w14.cell? ⟨gb301, 0, none⟩ = some (.int .i64 t299) := (blk_cell BK301.out 0).trans rfl; have hcz15_1 : w14.cell? ⟨gb301, 1, none⟩ = some (.int .i64 t300) := (blk_cell BK301.out 1).trans rfl; have hfz15_0 := blk_frozen BK301.out 0; have hfz15_1 := blk_frozen BK301.out 1) | ((with_reducible refine gate_callee (f := 22) rfl ?_); refine goesL_ (some 28) rfl rfl Try.func22 (by kernel_rfl) rfl #[.agg #[.int .i64 t299, .int .i64 t300]] rfl (by (try simp only [List.map_toArray, List.map_cons, List.map_nil]); first | done | rfl | (simp only [List.length_drop, List.length_take]; rfl) | (go_simp; done) | (simp; done) | (simp; rfl)) ?_; (with_reducible refine (spec_RatioText.calls k t299 t300 t304 t305 _ A6.out).mono ?_); rintro e w16 ⟨rfl, hb⟩; refine ⟨_, rfl, ?_⟩; have n0_ := Aside0.mk (blk_below (g := gb301) (o := .cells #[.int .i64 t299, .int .i64 t300] 25 (0, 0)) (by (with_reducible repeat (first | refine blk_drewN ?_ _ | refine blk_drew ?_ | refine blk_alloc ?_ _)); exact BK301.out) hb); have n1_ := Aside0.mk (below_step (by repeat (first | (with_reducible first | exact HB.out | apply below_alloc | apply pw_below_drewN | apply below_drew1 | refine below_set ?_ GE301.out) | exact HB.out)) hb); clear BK301; clear HB; have BK301 := n0_; have HB := n1_; clear n0_ n1_; (try clear hb); (try clear hb2); (try clear hk); (try clear hi)) | ((with_reducible refine gate_callee (f := 41) rfl ?_); refine goesL_ (some 32) rfl rfl Try.func41 (by kernel_rfl) rfl #[.slice A0 l0.length c0] rfl (by (try simp only [List.map_toArray, List.map_cons, List.map_nil]); first | done | rfl | (simp only [List.length_drop, List.length_take]; rfl) | (go_simp; done) | (simp; done) | (simp; rfl)) ?_; (with_reducible refine (spec_DrawReadRatio.calls k _ _ l0 t306 _ ?side1 ?side2 A7.out).mono ?_); (case side1 => repeat (first | exact (Kd.C_below HR0.out HB.out) | (with_reducible refine Kd.C_alloc ?_ _) | (with_reducible refine Kd.C_drewN ?_ _) | (with_reducible refine Kd.C_drew ?_))); (case side2 => exact HC0.out); rintro e w17 ⟨rfl, hb⟩; refine ⟨_, rfl, ?_⟩; have n0_ := Aside0.mk (blk_below (g := gb301) (o := .cells #[.int .i64 t299, .int .i64 t300] 25 (0, 0)) (by (with_reducible repeat (first | refine blk_drewN ?_ _ | refine blk_drew ?_ | refine blk_alloc ?_ _)); exact BK301.out) hb); have n1_ := Aside0.mk (below_step (by repeat (first | (with_reducible first | exact HB.out | apply below_alloc | apply pw_below_drewN | apply below_drew1 | refine below_set ?_ GE301.out) | exact HB.out)) hb); clear BK301; clear HB; have BK301 := n0_; have HB := n1_; clear n0_ n1_; (try clear hb); (try clear hb2); (try clear hk); (try clear hi)) | ((with_reducible refine gate_callee (f := 34) rfl ?_); refine goesL_ (some 35) rfl rfl Try.func34 (by kernel_rfl) rfl #[.string t306] rfl (by (try simp only [List.map_toArray, List.map_cons, List.map_nil]); first | done | rfl | (simp only [List.length_drop, List.length_take]; rfl) | (go_simp; done) | (simp; done) | (simp; rfl)) ?_; (with_reducible refine (impl_ReadRatio.calls k t306 t307 t308 t309 _ A8.out).mono ?_); rintro e w18 ⟨rfl, hb⟩; refine ⟨_, rfl, ?_⟩; have n0_ := Aside0.mk (blk_below (g := gb301) (o := .cells #[.int .i64 t299, .int .i64 t300] 25 (0, 0)) (by (with_reducible repeat (first | refine blk_drewN ?_ _ | refine blk_drew ?_ | refine blk_alloc ?_ _)); exact BK301.out) hb); have n1_ := Aside0.mk (below_step (by repeat (first | (with_reducible first | exact HB.out | apply below_alloc | apply pw_below_drewN | apply below_drew1 | refine below_set ?_ GE301.out) | exact HB.out)) hb); clear BK301; clear HB; have BK301 := n0_; have HB := n1_; clear n0_ n1_; (try clear hb); (try clear hb2); (try clear hk); (try clear hi)) | ((with_reducible refine gate_dst (N := 9) rfl ?_); refine box_event ?hg (N := 9) ?hd (cs := #[.int .i64 0, .int .i64 0]) (t := 25) ?hr ?_; (case hd => rfl); (case hg => rfl); (case hr => first | (go_simp; done) | (go_simp; rfl)); intro gb310 hg w19 hbox hb; have n0_ := Aside0.mk (blk_below (g := gb301) (o := .cells #[.int .i64 t299, .int .i64 t300] 25 (0, 0)) (by (with_reducible repeat (first | refine blk_drewN ?_ _ | refine blk_drew ?_ | refine blk_alloc ?_ _)); exact BK301.out) hb); have n1_ := Aside0.mk (below_step (by repeat (first | (with_reducible first | exact HB.out | apply below_alloc | apply pw_below_drewN | apply below_drew1 | refine below_set ?_ GE301.out) | exact HB.out)) hb); have n2_ := Aside0.mk (hbox); have n3_ := Aside0.mk ((by rw [hg]; exact (below_size (by repeat (first | (with_reducible first | exact HB.out | apply below_alloc | apply pw_below_drewN | apply below_drew1 | refine below_set ?_ GE301.out) | exact HB.out))) : w.heap.size ≤ gb310)); have n4_ := Aside0.mk ((by rw [hg]; exact (below_size (by repeat (first | (with_reducible first | exact HB.out | apply below_alloc | apply pw_below_drewN | apply below_drew1 | refine below_set ?_ GE301.out) | exact HB.out))) : w.heap.size ≤ gb310)); have n5_ := Aside0.mk ((by rw [hg]; exact Nat.ne_of_lt (blk_lt (g := gb301) (o := .cells #[.int .i64 t299, .int .i64 t300] 25 (0, 0)) (by (with_reducible repeat (first | refine blk_drewN ?_ _ | refine blk_drew ?_ | refine blk_alloc ?_ _)); exact BK301.out)) : gb301 ≠ gb310)); have n6_ := Aside0.mk ((by rw [hg]; exact Nat.ne_of_gt (blk_lt (g := gb301) (o := .cells #[.int .i64 t299, .int .i64 t300] 25 (0, 0)) (by (with_reducible repeat (first | refine blk_drewN ?_ _ | refine blk_drew ?_ | refine blk_alloc ?_ _)); exact BK301.out)) : gb310 ≠ gb301)); clear BK301; clear HB; have BK301 := n0_; have HB := n1_; have BK310 := n2_; have GW310 := n3_; have GE310 := n4_; have NB301_310 := n5_; have NB310_301 := n6_; clear n0_ n1_ n2_ n3_ n4_ n5_ n6_; clear hb hbox hg; have hnb20 := NB310_301.out; have hnc20 := NB301_310.out; have hcz21_0 : w19.cell? ⟨gb310, 0, none⟩ = some (.int .i64 0) := (blk_cell BK310.out 0).trans rfl; have hcz21_1 : w19.cell? ⟨gb310, 1, none⟩ = some (.int .i64 0) := (blk_cell BK310.out 1).trans rfl; have hfz21_0 := blk_frozen BK310.out 0; have hfz21_1 := blk_frozen BK310.out 1) | ((with_reducible refine gate_callee (f := 33) rfl ?_); refine goesL_ (some 40) rfl rfl Try.func33 (by kernel_rfl) rfl #[.string t306] rfl (by (try simp only [List.map_toArray, List.map_cons, List.map_nil]); first | done | rfl | (simp only [List.length_drop, List.length_take]; rfl) | (go_simp; done) | (simp; done) | (simp; rfl)) ?_; (with_reducible refine (spec_ReadRatio.calls k t306 t311 t312 t313 _ A9.out).mono ?_); rintro e w22 ⟨rfl, hb⟩; refine ⟨_, rfl, ?_⟩; have n0_ := Aside0.mk (blk_below (g := gb301) (o := .cells #[.int .i64 t299, .int .i64 t300] 25 (0, 0)) (by (with_reducible repeat (first | refine blk_drewN ?_ _ | refine blk_drew ?_ | refine blk_alloc ?_ _)); refine blk_far ?_ NB301_310.out _; (with_reducible repeat (first | refine blk_drewN ?_ _ | refine blk_drew ?_ | refine blk_alloc ?_ _)); refine blk_far ?_ NB301_310.out _; (with_reducible repeat (first | refine blk_drewN ?_ _ | refine blk_drew ?_ | refine blk_alloc ?_ _)); exact BK301.out) hb); have n1_ := Aside0.mk (blk_below (g := gb310) (o := .cells #[.int .i64 t307, .int .i64 t308] 25 (0, 0)) (by (with_reducible repeat (first | refine blk_drewN ?_ _ | refine blk_drew ?_ | refine blk_alloc ?_ _)); refine blk_put (cs := #[.int .i64 t307, .int .i64 0]) ?_ 1 _ rfl; (with_reducible repeat (first | refine blk_drewN ?_ _ | refine blk_drew ?_ | refine blk_alloc ?_ _)); refine blk_put (cs := #[.int .i64 0, .int .i64 0]) ?_ 0 _ rfl; (with_reducible repeat (first | refine blk_drewN ?_ _ | refine blk_drew ?_ | refine blk_alloc ?_ _)); exact BK310.out) hb); have n2_ := Aside0.mk (below_step (by repeat (first | (with_reducible first | exact HB.out | apply below_alloc | apply pw_below_drewN | apply below_drew1 | refine below_set ?_ GE301.out | refine below_set ?_ GE310.out) | exact HB.out)) hb); clear BK301; clear BK310; clear HB; have BK301 := n0_; have BK310 := n1_; have HB := n2_; clear n0_ n1_ n2_; (try clear hb); (try clear hb2); (try clear hk); (try clear hi)) | ((with_reducible refine gate_dst (N := 11) rfl ?_); refine box_event ?hg (N := 11) ?hd (cs := #[.int .i64 0, .int .i64 0]) (t := 25) ?hr ?_; (case hd => rfl); (case hg => rfl); (case hr => first | (go_simp; done) | (go_simp; rfl)); intro gb314 hg w23 hbox hb; have n0_ := Aside0.mk (blk_below (g := gb301) (o := .cells #[.int .i64 t299, .int .i64 t300] 25 (0, 0)) (by (with_reducible repeat (first | refine blk_drewN ?_ _ | refine blk_drew ?_ | refine blk_alloc ?_ _)); exact BK301.out) hb); have n1_ := Aside0.mk (blk_below (g := gb310) (o := .cells #[.int .i64 t307, .int .i64 t308] 25 (0, 0)) (by (with_reducible repeat (first | refine blk_drewN ?_ _ | refine blk_drew ?_ | refine blk_alloc ?_ _)); exact BK310.out) hb); have n2_ := Aside0.mk (below_step (by repeat (first | (with_reducible first | exact HB.out | apply below_alloc | apply pw_below_drewN | apply below_drew1 | refine below_set ?_ GE301.out | refine below_set ?_ GE310.out) | exact HB.out)) hb); have n3_ := Aside0.mk (hbox); have n4_ := Aside0.mk ((by rw [hg]; exact (below_size (by repeat (first | (with_reducible first | exact HB.out | apply below_alloc | apply pw_below_drewN | apply below_drew1 | refine below_set ?_ GE301.out | refine below_set ?_ GE310.out) | exact HB.out))) : w.heap.size ≤ gb314)); have n5_ := Aside0.mk ((by rw [hg]; exact (below_size (by repeat (first | (with_reducible first | exact HB.out | apply below_alloc | apply pw_below_drewN | apply below_drew1 | refine below_set ?_ GE301.out | refine below_set ?_ GE310.out) | exact HB.out))) : w.heap.size ≤ gb314)); have n6_ := Aside0.mk ((by rw [hg]; exact Nat.ne_of_lt (blk_lt (g := gb301) (o := .cells #[.int .i64 t299, .int .i64 t300] 25 (0, 0)) (by (with_reducible repeat (first | refine blk_drewN ?_ _ | refine blk_drew ?_ | refine blk_alloc ?_ _)); exact BK301.out)) : gb301 ≠ gb314)); have n7_ := Aside0.mk ((by rw [hg]; exact Nat.ne_of_gt (blk_lt (g := gb301) (o := .cells #[.int .i64 t299, .int .i64 t300] 25 (0, 0)) (by (with_reducible repeat (first | refine blk_drewN ?_ _ | refine blk_drew ?_ | refine blk_alloc ?_ _)); exact BK301.out)) : gb314 ≠ gb301)); have n8_ := Aside0.mk ((by rw [hg]; exact Nat.ne_of_lt (blk_lt (g := gb310) (o := .cells #[.int .i64 t307, .int .i64 t308] 25 (0, 0)) (by (with_reducible repeat (first | refine blk_drewN ?_ _ | refine blk_drew ?_ | refine blk_alloc ?_ _)); exact BK310.out)) : gb310 ≠ gb314)); have n9_ := Aside0.mk ((by rw [hg]; exact Nat.ne_of_gt (blk_lt (g := gb310) (o := .cells #[.int .i64 t307, .int .i64 t308] 25 (0, 0)) (by (with_reducible repeat (first | refine blk_drewN ?_ _ | refine blk_drew ?_ | refine blk_alloc ?_ _)); exact BK310.out)) : gb314 ≠ gb310)); clear BK301; clear BK310; clear HB; have BK301 := n0_; have BK310 := n1_; have HB := n2_; have BK314 := n3_; have GW314 := n4_; have GE314 := n5_; have NB301_314 := n6_; have NB314_301 := n7_; have NB310_314 := n8_; have NB314_310 := n9_; clear n0_ n1_ n2_ n3_ n4_ n5_ n6_ n7_ n8_ n9_; clear hb hbox hg; have hnb24 := NB314_301.out; have hnc24 := NB301_314.out; have hnb25 := NB314_310.out; have hnc25 := NB310_314.out; have hcz26_0 : w23.cell? ⟨gb314, 0, none⟩ = some (.int .i64 0) := (blk_cell BK314.out 0).trans rfl; have hcz26_1 : w23.cell? ⟨gb314, 1, none⟩ = some (.int .i64 0) := (blk_cell BK314.out 1).trans rfl; have hfz26_0 := blk_frozen BK314.out 0; have hfz26_1 := blk_frozen BK314.out 1))
    (try simp only [Act.put, List.setIfInBounds_toArray, List.set_cons_zero, List.set_cons_succ])
    go_cut [68] (fun v68 wc => ∃ (kq : Nat) (x68_9 : Bool), v68 = .bool x68_9 ∧ Aside0 (laws_FnRatioTexts.j0 kq t302 t303 t306 t309 x68_9 t299 t300 t307 t308 = some r) ∧ Aside0 (kq ≤ k) ∧ Aside0 (wc.heap[gb301]? = some (.cells #[.int .i64 t299, .int .i64 t300] 25 (0, 0))) ∧ Aside0 (wc.heap[gb310]? = some (.cells #[.int .i64 t307, .int .i64 t308] 25 (0, 0))) ∧ Aside0 (wc.heap[gb314]? = some (.cells #[.int .i64 t311, .int .i64 t312] 25 (0, 0))) ∧ Aside0 (Below w.heap.size w wc))
    case first =>
      have H := HC10.out
      clear HC10
      by_cases c27 : t303 = t305
      · rw [if_pos c27] at H
        have c27b0 : (t303 == t305) = true := beq_iff_eq.mpr c27
        have c27b1 : (t303 != t305) = false := bne_eq_false_iff_eq.mpr c27
        clear c27
        (first | rw [c27b0] | (simp only [i64_w, i32_w]; rw [c27b0]) | skip)
        by_cases c28 : t302.toList = t304.toList
        · rw [if_pos c28] at H
          have c28b0 : (t302.toList == t304.toList) = true := beq_iff_eq.mpr c28
          have c28b1 : (t302.toList != t304.toList) = false := bne_eq_false_iff_eq.mpr c28
          clear c28
          by_cases c29 : t309 = t313
          · rw [if_pos c29] at H
            have c29b0 : (t309 == t313) = true := beq_iff_eq.mpr c29
            have c29b1 : (t309 != t313) = false := bne_eq_false_iff_eq.mpr c29
            clear c29
            by_cases c30 : ((t307 == t311 && (t308 == t312)) = true)
            · rw [if_pos c30] at H
              have c30b0 : (t307 == t311 && (t308 == t312)) = true := c30
              (try (have c30b1 : decide (t307 = t311 && (t308 == t312)) = true := by simpa using c30))
              (try (have c30b2 : (t307 == t311 && (t308 == t312)) = true := by simpa using c30))
              clear c30
              replace H := Option.bind_eq_some_iff.mp H
              obtain ⟨t315, A310, H⟩ := H
              replace H : (laws_FnRatioTexts.j0 k t302 t303 t306 t309 (t315 != (t305 == 0)) t299 t300 t307 t308) = some r := H
              have A31 := Aside0.mk A310
              clear A310
              have H' := Aside0.mk H
              clear H
              have hnb32 := NB310_301.out
              have hnc32 := NB301_310.out
              have hnb33 := NB310_314.out
              have hnc33 := NB314_310.out
              have hcz34_0 : w23.cell? ⟨gb310, 0, none⟩ = some (.int .i64 t307) := (blk_cell BK310.out 0).trans rfl
              have hcz34_1 : w23.cell? ⟨gb310, 1, none⟩ = some (.int .i64 t308) := (blk_cell BK310.out 1).trans rfl
              have hfz34_0 := blk_frozen BK310.out 0
              have hfz34_1 := blk_frozen BK310.out 1
              have hnb35 := NB314_301.out
              have hnc35 := NB301_314.out
              have hcz36_0 : w23.cell? ⟨gb314, 0, none⟩ = some (.int .i64 0) := (blk_cell BK314.out 0).trans rfl
              have hcz36_1 : w23.cell? ⟨gb314, 1, none⟩ = some (.int .i64 0) := (blk_cell BK314.out 1).trans rfl
              have hfz36_0 := blk_frozen BK314.out 0
              have hfz36_1 := blk_frozen BK314.out 1
              have hcz37_0 : w23.cell? ⟨gb301, 0, none⟩ = some (.int .i64 t299) := (blk_cell BK301.out 0).trans rfl
              have hcz37_1 : w23.cell? ⟨gb301, 1, none⟩ = some (.int .i64 t300) := (blk_cell BK301.out 1).trans rfl
              have hfz37_0 := blk_frozen BK301.out 0
              have hfz37_1 := blk_frozen BK301.out 1
              go_wp2_with (first | (go_at_call 17; (with_reducible refine (impl_IsRatio.calls k t299 t300 t315 _ A31.out).mono ?_); rintro e w38 ⟨rfl, hb⟩; have n0_ := Aside0.mk (blk_below (g := gb301) (o := .cells #[.int .i64 t299, .int .i64 t300] 25 (0, 0)) (by (with_reducible repeat (first | refine blk_drewN ?_ _ | refine blk_drew ?_ | refine blk_alloc ?_ _)); refine blk_far ?_ NB301_314.out _; (with_reducible repeat (first | refine blk_drewN ?_ _ | refine blk_drew ?_ | refine blk_alloc ?_ _)); refine blk_far ?_ NB301_314.out _; (with_reducible repeat (first | refine blk_drewN ?_ _ | refine blk_drew ?_ | refine blk_alloc ?_ _)); exact BK301.out) hb); have n1_ := Aside0.mk (blk_below (g := gb310) (o := .cells #[.int .i64 t307, .int .i64 t308] 25 (0, 0)) (by (with_reducible repeat (first | refine blk_drewN ?_ _ | refine blk_drew ?_ | refine blk_alloc ?_ _)); refine blk_far ?_ NB310_314.out _; (with_reducible repeat (first | refine blk_drewN ?_ _ | refine blk_drew ?_ | refine blk_alloc ?_ _)); refine blk_far ?_ NB310_314.out _; (with_reducible repeat (first | refine blk_drewN ?_ _ | refine blk_drew ?_ | refine blk_alloc ?_ _)); exact BK310.out) hb); have n2_ := Aside0.mk (blk_below (g := gb314) (o := .cells #[.int .i64 t311, .int .i64 t312] 25 (0, 0)) (by (with_reducible repeat (first | refine blk_drewN ?_ _ | refine blk_drew ?_ | refine blk_alloc ?_ _)); refine blk_put (cs := #[.int .i64 t311, .int .i64 0]) ?_ 1 _ rfl; (with_reducible repeat (first | refine blk_drewN ?_ _ | refine blk_drew ?_ | refine blk_alloc ?_ _)); refine blk_put (cs := #[.int .i64 0, .int .i64 0]) ?_ 0 _ rfl; (with_reducible repeat (first | refine blk_drewN ?_ _ | refine blk_drew ?_ | refine blk_alloc ?_ _)); exact BK314.out) hb); have n3_ := Aside0.mk (below_step (by repeat (first | (with_reducible first | exact HB.out | apply below_alloc | apply pw_below_drewN | apply below_drew1 | refine below_set ?_ GE301.out | refine below_set ?_ GE310.out | refine below_set ?_ GE314.out) | exact HB.out)) hb); clear BK301; clear BK310; clear BK314; clear HB; have BK301 := n0_; have BK310 := n1_; have BK314 := n2_; have HB := n3_; clear n0_ n1_ n2_ n3_; (try clear hb); (try clear hb2); (try clear hk); (try clear hi)))
              go_meet
              case rel => exact ⟨_, ((t315 != (t305 == 0))), (by first | rfl | (simp; done) | (simp [*]; done)), H', ⟨by first | omega | exact Nat.le_refl _⟩, ⟨by (with_reducible repeat (first | refine blk_drewN ?_ _ | refine blk_drew ?_ | refine blk_alloc ?_ _)); exact BK301.out⟩, ⟨by (with_reducible repeat (first | refine blk_drewN ?_ _ | refine blk_drew ?_ | refine blk_alloc ?_ _)); exact BK310.out⟩, ⟨by (with_reducible repeat (first | refine blk_drewN ?_ _ | refine blk_drew ?_ | refine blk_alloc ?_ _)); exact BK314.out⟩, ⟨by repeat (first | (with_reducible first | exact HB.out | apply below_alloc | apply pw_below_drewN | apply below_drew1 | refine below_set ?_ GE301.out | refine below_set ?_ GE310.out | refine below_set ?_ GE314.out) | exact HB.out)⟩⟩
            · rw [if_neg c30] at H
              have c30b0 : (t307 == t311 && (t308 == t312)) = false := by simpa using c30
              (try (have c30b1 : decide (t307 = t311 && (t308 == t312)) = false := by simpa using c30))
              (try (have c30b2 : (t307 == t311 && (t308 == t312)) = false := by simpa using c30))
              (try (have c30b3 : ¬ (t307 = t311 && (t308 == t312)) := by simpa using c30))
              clear c30
              have H' := Aside0.mk H
              clear H
              have hnb39 := NB310_301.out
              have hnc39 := NB301_310.out
              have hnb40 := NB310_314.out
              have hnc40 := NB314_310.out
              have hcz41_0 : w23.cell? ⟨gb310, 0, none⟩ = some (.int .i64 t307) := (blk_cell BK310.out 0).trans rfl
              have hcz41_1 : w23.cell? ⟨gb310, 1, none⟩ = some (.int .i64 t308) := (blk_cell BK310.out 1).trans rfl
              have hfz41_0 := blk_frozen BK310.out 0
              have hfz41_1 := blk_frozen BK310.out 1
              have hnb42 := NB314_301.out
              have hnc42 := NB301_314.out
              have hcz43_0 : w23.cell? ⟨gb314, 0, none⟩ = some (.int .i64 0) := (blk_cell BK314.out 0).trans rfl
              have hcz43_1 : w23.cell? ⟨gb314, 1, none⟩ = some (.int .i64 0) := (blk_cell BK314.out 1).trans rfl
              have hfz43_0 := blk_frozen BK314.out 0
              have hfz43_1 := blk_frozen BK314.out 1
              go_wp2
              go_meet
              case rel => exact ⟨_, (true), (by first | rfl | (simp; done) | (simp [*]; done)), H', ⟨by first | omega | exact Nat.le_refl _⟩, ⟨by (with_reducible repeat (first | refine blk_drewN ?_ _ | refine blk_drew ?_ | refine blk_alloc ?_ _)); refine blk_far ?_ NB301_314.out _; (with_reducible repeat (first | refine blk_drewN ?_ _ | refine blk_drew ?_ | refine blk_alloc ?_ _)); refine blk_far ?_ NB301_314.out _; (with_reducible repeat (first | refine blk_drewN ?_ _ | refine blk_drew ?_ | refine blk_alloc ?_ _)); exact BK301.out⟩, ⟨by (with_reducible repeat (first | refine blk_drewN ?_ _ | refine blk_drew ?_ | refine blk_alloc ?_ _)); refine blk_far ?_ NB310_314.out _; (with_reducible repeat (first | refine blk_drewN ?_ _ | refine blk_drew ?_ | refine blk_alloc ?_ _)); refine blk_far ?_ NB310_314.out _; (with_reducible repeat (first | refine blk_drewN ?_ _ | refine blk_drew ?_ | refine blk_alloc ?_ _)); exact BK310.out⟩, ⟨by (with_reducible repeat (first | refine blk_drewN ?_ _ | refine blk_drew ?_ | refine blk_alloc ?_ _)); refine blk_put (cs := #[.int .i64 t311, .int .i64 0]) ?_ 1 _ rfl; (with_reducible repeat (first | refine blk_drewN ?_ _ | refine blk_drew ?_ | refine blk_alloc ?_ _)); refine blk_put (cs := #[.int .i64 0, .int .i64 0]) ?_ 0 _ rfl; (with_reducible repeat (first | refine blk_drewN ?_ _ | refine blk_drew ?_ | refine blk_alloc ?_ _)); exact BK314.out⟩, ⟨by repeat (first | (with_reducible first | exact HB.out | apply below_alloc | apply pw_below_drewN | apply below_drew1 | refine below_set ?_ GE301.out | refine below_set ?_ GE310.out | refine below_set ?_ GE314.out) | exact HB.out)⟩⟩
          · rw [if_neg c29] at H
            have c29b0 : (t309 == t313) = false := beq_eq_false_iff_ne.mpr c29
            have c29b1 : (t309 != t313) = true := bne_iff_ne.mpr c29
            have H' := Aside0.mk H
            clear H
            go_wp2
            go_meet
            case rel => exact ⟨_, (true), (by first | rfl | (simp; done) | (simp [*]; done)), H', ⟨by first | omega | exact Nat.le_refl _⟩, ⟨by (with_reducible repeat (first | refine blk_drewN ?_ _ | refine blk_drew ?_ | refine blk_alloc ?_ _)); refine blk_far ?_ NB301_314.out _; (with_reducible repeat (first | refine blk_drewN ?_ _ | refine blk_drew ?_ | refine blk_alloc ?_ _)); refine blk_far ?_ NB301_314.out _; (with_reducible repeat (first | refine blk_drewN ?_ _ | refine blk_drew ?_ | refine blk_alloc ?_ _)); exact BK301.out⟩, ⟨by (with_reducible repeat (first | refine blk_drewN ?_ _ | refine blk_drew ?_ | refine blk_alloc ?_ _)); refine blk_far ?_ NB310_314.out _; (with_reducible repeat (first | refine blk_drewN ?_ _ | refine blk_drew ?_ | refine blk_alloc ?_ _)); refine blk_far ?_ NB310_314.out _; (with_reducible repeat (first | refine blk_drewN ?_ _ | refine blk_drew ?_ | refine blk_alloc ?_ _)); exact BK310.out⟩, ⟨by (with_reducible repeat (first | refine blk_drewN ?_ _ | refine blk_drew ?_ | refine blk_alloc ?_ _)); refine blk_put (cs := #[.int .i64 t311, .int .i64 0]) ?_ 1 _ rfl; (with_reducible repeat (first | refine blk_drewN ?_ _ | refine blk_drew ?_ | refine blk_alloc ?_ _)); refine blk_put (cs := #[.int .i64 0, .int .i64 0]) ?_ 0 _ rfl; (with_reducible repeat (first | refine blk_drewN ?_ _ | refine blk_drew ?_ | refine blk_alloc ?_ _)); exact BK314.out⟩, ⟨by repeat (first | (with_reducible first | exact HB.out | apply below_alloc | apply pw_below_drewN | apply below_drew1 | refine below_set ?_ GE301.out | refine below_set ?_ GE310.out | refine below_set ?_ GE314.out) | exact HB.out)⟩⟩
        · rw [if_neg c28] at H
          have c28b0 : (t302.toList == t304.toList) = false := beq_eq_false_iff_ne.mpr c28
          have c28b1 : (t302.toList != t304.toList) = true := bne_iff_ne.mpr c28
          have H' := Aside0.mk H
          clear H
          go_wp2
          go_meet
          case rel => exact ⟨_, (true), (by first | rfl | (simp; done) | (simp [*]; done)), H', ⟨by first | omega | exact Nat.le_refl _⟩, ⟨by (with_reducible repeat (first | refine blk_drewN ?_ _ | refine blk_drew ?_ | refine blk_alloc ?_ _)); refine blk_far ?_ NB301_314.out _; (with_reducible repeat (first | refine blk_drewN ?_ _ | refine blk_drew ?_ | refine blk_alloc ?_ _)); refine blk_far ?_ NB301_314.out _; (with_reducible repeat (first | refine blk_drewN ?_ _ | refine blk_drew ?_ | refine blk_alloc ?_ _)); exact BK301.out⟩, ⟨by (with_reducible repeat (first | refine blk_drewN ?_ _ | refine blk_drew ?_ | refine blk_alloc ?_ _)); refine blk_far ?_ NB310_314.out _; (with_reducible repeat (first | refine blk_drewN ?_ _ | refine blk_drew ?_ | refine blk_alloc ?_ _)); refine blk_far ?_ NB310_314.out _; (with_reducible repeat (first | refine blk_drewN ?_ _ | refine blk_drew ?_ | refine blk_alloc ?_ _)); exact BK310.out⟩, ⟨by (with_reducible repeat (first | refine blk_drewN ?_ _ | refine blk_drew ?_ | refine blk_alloc ?_ _)); refine blk_put (cs := #[.int .i64 t311, .int .i64 0]) ?_ 1 _ rfl; (with_reducible repeat (first | refine blk_drewN ?_ _ | refine blk_drew ?_ | refine blk_alloc ?_ _)); refine blk_put (cs := #[.int .i64 0, .int .i64 0]) ?_ 0 _ rfl; (with_reducible repeat (first | refine blk_drewN ?_ _ | refine blk_drew ?_ | refine blk_alloc ?_ _)); exact BK314.out⟩, ⟨by repeat (first | (with_reducible first | exact HB.out | apply below_alloc | apply pw_below_drewN | apply below_drew1 | refine below_set ?_ GE301.out | refine below_set ?_ GE310.out | refine below_set ?_ GE314.out) | exact HB.out)⟩⟩
      · rw [if_neg c27] at H
        have c27b0 : (t303 == t305) = false := beq_eq_false_iff_ne.mpr c27
        have c27b1 : (t303 != t305) = true := bne_iff_ne.mpr c27
        (first | rw [c27b0] | (simp only [i64_w, i32_w]; rw [c27b0]) | skip)
        have H' := Aside0.mk H
        clear H
        go_wp2
        go_meet
        case rel => exact ⟨_, (true), (by first | rfl | (simp; done) | (simp [*]; done)), H', ⟨by first | omega | exact Nat.le_refl _⟩, ⟨by (with_reducible repeat (first | refine blk_drewN ?_ _ | refine blk_drew ?_ | refine blk_alloc ?_ _)); refine blk_far ?_ NB301_314.out _; (with_reducible repeat (first | refine blk_drewN ?_ _ | refine blk_drew ?_ | refine blk_alloc ?_ _)); refine blk_far ?_ NB301_314.out _; (with_reducible repeat (first | refine blk_drewN ?_ _ | refine blk_drew ?_ | refine blk_alloc ?_ _)); exact BK301.out⟩, ⟨by (with_reducible repeat (first | refine blk_drewN ?_ _ | refine blk_drew ?_ | refine blk_alloc ?_ _)); refine blk_far ?_ NB310_314.out _; (with_reducible repeat (first | refine blk_drewN ?_ _ | refine blk_drew ?_ | refine blk_alloc ?_ _)); refine blk_far ?_ NB310_314.out _; (with_reducible repeat (first | refine blk_drewN ?_ _ | refine blk_drew ?_ | refine blk_alloc ?_ _)); exact BK310.out⟩, ⟨by (with_reducible repeat (first | refine blk_drewN ?_ _ | refine blk_drew ?_ | refine blk_alloc ?_ _)); refine blk_put (cs := #[.int .i64 t311, .int .i64 0]) ?_ 1 _ rfl; (with_reducible repeat (first | refine blk_drewN ?_ _ | refine blk_drew ?_ | refine blk_alloc ?_ _)); refine blk_put (cs := #[.int .i64 0, .int .i64 0]) ?_ 0 _ rfl; (with_reducible repeat (first | refine blk_drewN ?_ _ | refine blk_drew ?_ | refine blk_alloc ?_ _)); exact BK314.out⟩, ⟨by repeat (first | (with_reducible first | exact HB.out | apply below_alloc | apply pw_below_drewN | apply below_drew1 | refine below_set ?_ GE301.out | refine below_set ?_ GE310.out | refine below_set ?_ GE314.out) | exact HB.out)⟩⟩
    case rest =>
      clear HC10
      try clear c1
      try clear c2
      try clear p2
      try clear c3
      try clear c4
      try clear c14
      try clear c20
      try clear c22
      try clear c23
      try clear c24
      try clear c25
      try clear c27
      try clear c27b0
      try clear c27b1
      try clear c28
      try clear c28b0
      try clear c28b1
      try clear c29
      try clear c29b0
      try clear c29b1
      try clear c30
      try clear c30b0
      try clear c30b1
      try clear c30b2
      try clear c32
      try clear c33
      try clear c34
      try clear c35
      try clear c39
      try clear c40
      try clear c41
      try clear c42
      try clear hcz13_0
      try clear hcz13_1
      try clear hcz15_0
      try clear hcz15_1
      try clear hcz21_0
      try clear hcz21_1
      try clear hcz26_0
      try clear hcz26_1
      try clear hcz34_0
      try clear hcz34_1
      try clear hcz36_0
      try clear hcz36_1
      try clear hcz37_0
      try clear hcz37_1
      try clear hcz41_0
      try clear hcz41_1
      try clear hcz43_0
      try clear hcz43_1
      try clear hfz13_0
      try clear hfz13_1
      try clear hfz15_0
      try clear hfz15_1
      try clear hfz21_0
      try clear hfz21_1
      try clear hfz26_0
      try clear hfz26_1
      try clear hfz34_0
      try clear hfz34_1
      try clear hfz36_0
      try clear hfz36_1
      try clear hfz37_0
      try clear hfz37_1
      try clear hfz41_0
      try clear hfz41_1
      try clear hfz43_0
      try clear hfz43_1
      obtain ⟨kq, x68_9, rfl, HA, HJ9, BK301, BK310, BK314, HB⟩ := hcut
      cases kq with
      | zero => exact absurd HA.out (by simp [laws_FnRatioTexts.j0])
      | succ kj9 =>
        have H := HA.out
        clear HA
        simp only [laws_FnRatioTexts.j0] at H
        by_cases c44 : x68_9 = true
        · subst c44
          have H1 : (some false) = some r := by rw [if_pos rfl] at H; exact H
          clear H
          have H := H1
          clear H1
          obtain rfl := Option.some.inj H
          exact absurd hr_.out (by decide)
        · replace c44 := Bool.eq_false_iff.mpr c44
          subst c44
          have H1 : (if t309 = 0 then ((impl_RatioText.f kj9 t307 t308).bind fun bt316 => (if bt316.2 = 0 then (laws_FnRatioTexts.j1 kj9 t302 t303 (bt316.1.toList != t306.toList) t299 t300) else (laws_FnRatioTexts.j1 kj9 t302 t303 true t299 t300))) else (if t303 = 0 then ((impl_ReadRatio.f kj9 t302).bind fun bt322 => (if bt322.2.2 = 0 then (some (bt322.1 == t299 && (bt322.2.1 == t300))) else (some false))) else (some true))) = some r := by rw [if_neg (show ¬ (false = true) by decide)] at H; exact H
          clear H
          have H := H1
          clear H1
          by_cases c45 : t309 = 0
          · rw [if_pos c45] at H
            have c45b0 : (t309 == 0) = true := beq_iff_eq.mpr c45
            have c45b1 : (t309 != 0) = false := bne_eq_false_iff_eq.mpr c45
            clear c45
            replace H := Option.bind_eq_some_iff.mp H
            obtain ⟨⟨t316, t317⟩, A460, H⟩ := H
            replace H : (if t317 = 0 then (laws_FnRatioTexts.j1 kj9 t302 t303 (t316.toList != t306.toList) t299 t300) else (laws_FnRatioTexts.j1 kj9 t302 t303 true t299 t300)) = some r := H
            have A46 := Aside0.mk A460
            clear A460
            have HC47 := Aside0.mk H
            clear H
            have hnb48 := NB310_301.out
            have hnc48 := NB301_310.out
            have hnb49 := NB310_314.out
            have hnc49 := NB314_310.out
            have hcz50_0 : wc.cell? ⟨gb310, 0, none⟩ = some (.int .i64 t307) := (blk_cell BK310.out 0).trans rfl
            have hcz50_1 : wc.cell? ⟨gb310, 1, none⟩ = some (.int .i64 t308) := (blk_cell BK310.out 1).trans rfl
            have hfz50_0 := blk_frozen BK310.out 0
            have hfz50_1 := blk_frozen BK310.out 1
            go_upto_region 13 with (first | ((with_reducible refine gate_callee (f := 23) rfl ?_); refine goesL_ (some 73) rfl rfl Try.func23 (by kernel_rfl) rfl #[.agg #[.int .i64 t307, .int .i64 t308]] rfl (by (try simp only [List.map_toArray, List.map_cons, List.map_nil]); first | done | rfl | (simp only [List.length_drop, List.length_take]; rfl) | (go_simp; done) | (simp; done) | (simp; rfl)) ?_; (with_reducible refine (impl_RatioText.calls kj9 t307 t308 t316 t317 _ A46.out).mono ?_); rintro e w51 ⟨rfl, hb⟩; refine ⟨_, rfl, ?_⟩; have n0_ := Aside0.mk (blk_below (g := gb301) (o := .cells #[.int .i64 t299, .int .i64 t300] 25 (0, 0)) (by (with_reducible repeat (first | refine blk_drewN ?_ _ | refine blk_drew ?_ | refine blk_alloc ?_ _)); exact BK301.out) hb); have n1_ := Aside0.mk (blk_below (g := gb310) (o := .cells #[.int .i64 t307, .int .i64 t308] 25 (0, 0)) (by (with_reducible repeat (first | refine blk_drewN ?_ _ | refine blk_drew ?_ | refine blk_alloc ?_ _)); exact BK310.out) hb); have n2_ := Aside0.mk (blk_below (g := gb314) (o := .cells #[.int .i64 t311, .int .i64 t312] 25 (0, 0)) (by (with_reducible repeat (first | refine blk_drewN ?_ _ | refine blk_drew ?_ | refine blk_alloc ?_ _)); exact BK314.out) hb); have n3_ := Aside0.mk (below_step (by repeat (first | (with_reducible first | exact HB.out | apply below_alloc | apply pw_below_drewN | apply below_drew1 | refine below_set ?_ GE301.out | refine below_set ?_ GE310.out | refine below_set ?_ GE314.out) | exact HB.out)) hb); clear BK301; clear BK310; clear BK314; clear HB; have BK301 := n0_; have BK310 := n1_; have BK314 := n2_; have HB := n3_; clear n0_ n1_ n2_ n3_; (try clear hb); (try clear hb2); (try clear hk); (try clear hi)))
            (try simp only [Act.put, List.setIfInBounds_toArray, List.set_cons_zero, List.set_cons_succ])
            go_cut [82] (fun v82 wc => ∃ (kq : Nat) (x82_46 : Bool), v82 = .bool x82_46 ∧ Aside0 (laws_FnRatioTexts.j1 kq t302 t303 x82_46 t299 t300 = some r) ∧ Aside0 (kq ≤ kj9) ∧ Aside0 (wc.heap[gb301]? = some (.cells #[.int .i64 t299, .int .i64 t300] 25 (0, 0))) ∧ Aside0 (wc.heap[gb310]? = some (.cells #[.int .i64 t307, .int .i64 t308] 25 (0, 0))) ∧ Aside0 (wc.heap[gb314]? = some (.cells #[.int .i64 t311, .int .i64 t312] 25 (0, 0))) ∧ Aside0 (Below w.heap.size w wc))
            case first =>
              have H := HC47.out
              clear HC47
              by_cases c52 : t317 = 0
              · rw [if_pos c52] at H
                have c52b0 : (t317 == 0) = true := beq_iff_eq.mpr c52
                have c52b1 : (t317 != 0) = false := bne_eq_false_iff_eq.mpr c52
                clear c52
                (first | rw [c52b0] | (simp only [i64_w, i32_w]; rw [c52b0]) | skip)
                have H' := Aside0.mk H
                clear H
                go_wp2
                go_meet
                case rel => exact ⟨_, ((t316.toList != t306.toList)), (by first | rfl | (simp; done) | (simp [*]; done)), H', ⟨by have := HJ9.out; first | omega | exact Nat.le_refl _⟩, ⟨by (with_reducible repeat (first | refine blk_drewN ?_ _ | refine blk_drew ?_ | refine blk_alloc ?_ _)); exact BK301.out⟩, ⟨by (with_reducible repeat (first | refine blk_drewN ?_ _ | refine blk_drew ?_ | refine blk_alloc ?_ _)); exact BK310.out⟩, ⟨by (with_reducible repeat (first | refine blk_drewN ?_ _ | refine blk_drew ?_ | refine blk_alloc ?_ _)); exact BK314.out⟩, ⟨by repeat (first | (with_reducible first | exact HB.out | apply below_alloc | apply pw_below_drewN | apply below_drew1 | refine below_set ?_ GE301.out | refine below_set ?_ GE310.out | refine below_set ?_ GE314.out) | exact HB.out)⟩⟩
              · rw [if_neg c52] at H
                have c52b0 : (t317 == 0) = false := beq_eq_false_iff_ne.mpr c52
                have c52b1 : (t317 != 0) = true := bne_iff_ne.mpr c52
                (first | rw [c52b0] | (simp only [i64_w, i32_w]; rw [c52b0]) | skip)
                have H' := Aside0.mk H
                clear H
                go_wp2
                go_meet
                case rel => exact ⟨_, (true), (by first | rfl | (simp; done) | (simp [*]; done)), H', ⟨by have := HJ9.out; first | omega | exact Nat.le_refl _⟩, ⟨by (with_reducible repeat (first | refine blk_drewN ?_ _ | refine blk_drew ?_ | refine blk_alloc ?_ _)); exact BK301.out⟩, ⟨by (with_reducible repeat (first | refine blk_drewN ?_ _ | refine blk_drew ?_ | refine blk_alloc ?_ _)); exact BK310.out⟩, ⟨by (with_reducible repeat (first | refine blk_drewN ?_ _ | refine blk_drew ?_ | refine blk_alloc ?_ _)); exact BK314.out⟩, ⟨by repeat (first | (with_reducible first | exact HB.out | apply below_alloc | apply pw_below_drewN | apply below_drew1 | refine below_set ?_ GE301.out | refine below_set ?_ GE310.out | refine below_set ?_ GE314.out) | exact HB.out)⟩⟩
            case rest =>
              clear HC47
              try clear c1
              try clear c2
              try clear p2
              try clear c3
              try clear c4
              try clear c5
              try clear c14
              try clear c20
              try clear c22
              try clear c23
              try clear c24
              try clear c25
              try clear c27
              try clear c27b0
              try clear c27b1
              try clear c28
              try clear c28b0
              try clear c28b1
              try clear c29
              try clear c29b0
              try clear c29b1
              try clear c30
              try clear c30b0
              try clear c30b1
              try clear c30b2
              try clear c32
              try clear c33
              try clear c34
              try clear c35
              try clear c39
              try clear c40
              try clear c41
              try clear c42
              try clear c44
              try clear c45
              try clear c45b0
              try clear c45b1
              try clear c48
              try clear c49
              try clear c52
              try clear c52b0
              try clear c52b1
              try clear hcz13_0
              try clear hcz13_1
              try clear hcz15_0
              try clear hcz15_1
              try clear hcz21_0
              try clear hcz21_1
              try clear hcz26_0
              try clear hcz26_1
              try clear hcz34_0
              try clear hcz34_1
              try clear hcz36_0
              try clear hcz36_1
              try clear hcz37_0
              try clear hcz37_1
              try clear hcz41_0
              try clear hcz41_1
              try clear hcz43_0
              try clear hcz43_1
              try clear hcz50_0
              try clear hcz50_1
              try clear hfz13_0
              try clear hfz13_1
              try clear hfz15_0
              try clear hfz15_1
              try clear hfz21_0
              try clear hfz21_1
              try clear hfz26_0
              try clear hfz26_1
              try clear hfz34_0
              try clear hfz34_1
              try clear hfz36_0
              try clear hfz36_1
              try clear hfz37_0
              try clear hfz37_1
              try clear hfz41_0
              try clear hfz41_1
              try clear hfz43_0
              try clear hfz43_1
              try clear hfz50_0
              try clear hfz50_1
              try clear p2
              obtain ⟨kq, x82_46, rfl, HA, HJ46, BK301, BK310, BK314, HB⟩ := hcut
              cases kq with
              | zero => exact absurd HA.out (by simp [laws_FnRatioTexts.j1])
              | succ kj46 =>
                have H := HA.out
                clear HA
                simp only [laws_FnRatioTexts.j1] at H
                by_cases c53 : x82_46 = true
                · subst c53
                  have H1 : (some false) = some r := by rw [if_pos rfl] at H; exact H
                  clear H
                  have H := H1
                  clear H1
                  obtain rfl := Option.some.inj H
                  exact absurd hr_.out (by decide)
                · replace c53 := Bool.eq_false_iff.mpr c53
                  subst c53
                  have H1 : (if t303 = 0 then ((impl_ReadRatio.f kj46 t302).bind fun bt318 => (if bt318.2.2 = 0 then (some (bt318.1 == t299 && (bt318.2.1 == t300))) else (some false))) else (some true)) = some r := by rw [if_neg (show ¬ (false = true) by decide)] at H; exact H
                  clear H
                  have H := H1
                  clear H1
                  by_cases c54 : t303 = 0
                  · rw [if_pos c54] at H
                    have c54b0 : (t303 == 0) = true := beq_iff_eq.mpr c54
                    have c54b1 : (t303 != 0) = false := bne_eq_false_iff_eq.mpr c54
                    clear c54
                    replace H := Option.bind_eq_some_iff.mp H
                    obtain ⟨⟨t318, t319, t320⟩, A550, H⟩ := H
                    replace H : (if t320 = 0 then (some (t318 == t299 && (t319 == t300))) else (some false)) = some r := H
                    have A55 := Aside0.mk A550
                    clear A550
                    by_cases c56 : t320 = 0
                    · rw [if_pos c56] at H
                      have c56b0 : (t320 == 0) = true := beq_iff_eq.mpr c56
                      have c56b1 : (t320 != 0) = false := bne_eq_false_iff_eq.mpr c56
                      clear c56
                      obtain rfl := Option.some.inj H
                      simp only [Option.some.injEq, Prod.mk.injEq] at H
                      obtain ⟨rfl⟩ := H
                      go_wp2_with (first | ((with_reducible refine gate_callee (f := 34) rfl ?_); refine goesL_ (some 87) rfl rfl Try.func34 (by kernel_rfl) rfl #[.string t302] rfl (by (try simp only [List.map_toArray, List.map_cons, List.map_nil]); first | done | rfl | (simp only [List.length_drop, List.length_take]; rfl) | (go_simp; done) | (simp; done) | (simp; rfl)) ?_; (with_reducible refine (impl_ReadRatio.calls kj46 t302 t318 t319 t320 _ A55.out).mono ?_); rintro e w57 ⟨rfl, hb⟩; refine ⟨_, rfl, ?_⟩; have n0_ := Aside0.mk (blk_below (g := gb301) (o := .cells #[.int .i64 t299, .int .i64 t300] 25 (0, 0)) (by (with_reducible repeat (first | refine blk_drewN ?_ _ | refine blk_drew ?_ | refine blk_alloc ?_ _)); exact BK301.out) hb); have n1_ := Aside0.mk (blk_below (g := gb310) (o := .cells #[.int .i64 t307, .int .i64 t308] 25 (0, 0)) (by (with_reducible repeat (first | refine blk_drewN ?_ _ | refine blk_drew ?_ | refine blk_alloc ?_ _)); exact BK310.out) hb); have n2_ := Aside0.mk (blk_below (g := gb314) (o := .cells #[.int .i64 t311, .int .i64 t312] 25 (0, 0)) (by (with_reducible repeat (first | refine blk_drewN ?_ _ | refine blk_drew ?_ | refine blk_alloc ?_ _)); exact BK314.out) hb); have n3_ := Aside0.mk (below_step (by repeat (first | (with_reducible first | exact HB.out | apply below_alloc | apply pw_below_drewN | apply below_drew1 | refine below_set ?_ GE301.out | refine below_set ?_ GE310.out | refine below_set ?_ GE314.out) | exact HB.out)) hb); clear BK301; clear BK310; clear BK314; clear HB; have BK301 := n0_; have BK310 := n1_; have BK314 := n2_; have HB := n3_; clear n0_ n1_ n2_ n3_; (try clear hb); (try clear hb2); (try clear hk); (try clear hi)) | ((with_reducible refine gate_dst (N := 15) rfl ?_); refine box_event ?hg (N := 15) ?hd (cs := #[.int .i64 0, .int .i64 0]) (t := 25) ?hr ?_; (case hd => rfl); (case hg => rfl); (case hr => first | (go_simp; done) | (go_simp; rfl)); intro gb321 hg w58 hbox hb; have n0_ := Aside0.mk (blk_below (g := gb301) (o := .cells #[.int .i64 t299, .int .i64 t300] 25 (0, 0)) (by (with_reducible repeat (first | refine blk_drewN ?_ _ | refine blk_drew ?_ | refine blk_alloc ?_ _)); exact BK301.out) hb); have n1_ := Aside0.mk (blk_below (g := gb310) (o := .cells #[.int .i64 t307, .int .i64 t308] 25 (0, 0)) (by (with_reducible repeat (first | refine blk_drewN ?_ _ | refine blk_drew ?_ | refine blk_alloc ?_ _)); exact BK310.out) hb); have n2_ := Aside0.mk (blk_below (g := gb314) (o := .cells #[.int .i64 t311, .int .i64 t312] 25 (0, 0)) (by (with_reducible repeat (first | refine blk_drewN ?_ _ | refine blk_drew ?_ | refine blk_alloc ?_ _)); exact BK314.out) hb); have n3_ := Aside0.mk (below_step (by repeat (first | (with_reducible first | exact HB.out | apply below_alloc | apply pw_below_drewN | apply below_drew1 | refine below_set ?_ GE301.out | refine below_set ?_ GE310.out | refine below_set ?_ GE314.out) | exact HB.out)) hb); have n4_ := Aside0.mk (hbox); have n5_ := Aside0.mk ((by rw [hg]; exact (below_size (by repeat (first | (with_reducible first | exact HB.out | apply below_alloc | apply pw_below_drewN | apply below_drew1 | refine below_set ?_ GE301.out | refine below_set ?_ GE310.out | refine below_set ?_ GE314.out) | exact HB.out))) : w.heap.size ≤ gb321)); have n6_ := Aside0.mk ((by rw [hg]; exact (below_size (by repeat (first | (with_reducible first | exact HB.out | apply below_alloc | apply pw_below_drewN | apply below_drew1 | refine below_set ?_ GE301.out | refine below_set ?_ GE310.out | refine below_set ?_ GE314.out) | exact HB.out))) : w.heap.size ≤ gb321)); have n7_ := Aside0.mk ((by rw [hg]; exact Nat.ne_of_lt (blk_lt (g := gb301) (o := .cells #[.int .i64 t299, .int .i64 t300] 25 (0, 0)) (by (with_reducible repeat (first | refine blk_drewN ?_ _ | refine blk_drew ?_ | refine blk_alloc ?_ _)); exact BK301.out)) : gb301 ≠ gb321)); have n8_ := Aside0.mk ((by rw [hg]; exact Nat.ne_of_gt (blk_lt (g := gb301) (o := .cells #[.int .i64 t299, .int .i64 t300] 25 (0, 0)) (by (with_reducible repeat (first | refine blk_drewN ?_ _ | refine blk_drew ?_ | refine blk_alloc ?_ _)); exact BK301.out)) : gb321 ≠ gb301)); have n9_ := Aside0.mk ((by rw [hg]; exact Nat.ne_of_lt (blk_lt (g := gb310) (o := .cells #[.int .i64 t307, .int .i64 t308] 25 (0, 0)) (by (with_reducible repeat (first | refine blk_drewN ?_ _ | refine blk_drew ?_ | refine blk_alloc ?_ _)); exact BK310.out)) : gb310 ≠ gb321)); have n10_ := Aside0.mk ((by rw [hg]; exact Nat.ne_of_gt (blk_lt (g := gb310) (o := .cells #[.int .i64 t307, .int .i64 t308] 25 (0, 0)) (by (with_reducible repeat (first | refine blk_drewN ?_ _ | refine blk_drew ?_ | refine blk_alloc ?_ _)); exact BK310.out)) : gb321 ≠ gb310)); have n11_ := Aside0.mk ((by rw [hg]; exact Nat.ne_of_lt (blk_lt (g := gb314) (o := .cells #[.int .i64 t311, .int .i64 t312] 25 (0, 0)) (by (with_reducible repeat (first | refine blk_drewN ?_ _ | refine blk_drew ?_ | refine blk_alloc ?_ _)); exact BK314.out)) : gb314 ≠ gb321)); have n12_ := Aside0.mk ((by rw [hg]; exact Nat.ne_of_gt (blk_lt (g := gb314) (o := .cells #[.int .i64 t311, .int .i64 t312] 25 (0, 0)) (by (with_reducible repeat (first | refine blk_drewN ?_ _ | refine blk_drew ?_ | refine blk_alloc ?_ _)); exact BK314.out)) : gb321 ≠ gb314)); clear BK301; clear BK310; clear BK314; clear HB; have BK301 := n0_; have BK310 := n1_; have BK314 := n2_; have HB := n3_; have BK321 := n4_; have GW321 := n5_; have GE321 := n6_; have NB301_321 := n7_; have NB321_301 := n8_; have NB310_321 := n9_; have NB321_310 := n10_; have NB314_321 := n11_; have NB321_314 := n12_; clear n0_ n1_ n2_ n3_ n4_ n5_ n6_ n7_ n8_ n9_ n10_ n11_ n12_; clear hb hbox hg; have hnb59 := NB321_301.out; have hnc59 := NB301_321.out; have hnb60 := NB321_310.out; have hnc60 := NB310_321.out; have hnb61 := NB321_314.out; have hnc61 := NB314_321.out; have hcz62_0 : w58.cell? ⟨gb321, 0, none⟩ = some (.int .i64 0) := (blk_cell BK321.out 0).trans rfl; have hcz62_1 : w58.cell? ⟨gb321, 1, none⟩ = some (.int .i64 0) := (blk_cell BK321.out 1).trans rfl; have hfz62_0 := blk_frozen BK321.out 0; have hfz62_1 := blk_frozen BK321.out 1; have hnb63 := NB301_310.out; have hnc63 := NB310_301.out; have hnb64 := NB301_314.out; have hnc64 := NB314_301.out; have hcz65_0 : w58.cell? ⟨gb301, 0, none⟩ = some (.int .i64 t299) := (blk_cell BK301.out 0).trans rfl; have hcz65_1 : w58.cell? ⟨gb301, 1, none⟩ = some (.int .i64 t300) := (blk_cell BK301.out 1).trans rfl; have hfz65_0 := blk_frozen BK301.out 0; have hfz65_1 := blk_frozen BK301.out 1))
                      go_ret
                      exact ⟨by first | rfl | (simp [errW_none, errW_some] <;> rfl) | (simp [*, errW_none, errW_some] <;> rfl), by repeat (first | (with_reducible first | exact HB.out | apply below_alloc | apply pw_below_drewN | apply below_drew1 | refine below_set ?_ GE301.out | refine below_set ?_ GE310.out | refine below_set ?_ GE314.out | refine below_set ?_ GE321.out) | exact HB.out)⟩
                    · rw [if_neg c56] at H
                      have c56b0 : (t320 == 0) = false := beq_eq_false_iff_ne.mpr c56
                      have c56b1 : (t320 != 0) = true := bne_iff_ne.mpr c56
                      obtain rfl := Option.some.inj H
                      exact absurd hr_.out (by decide)
                  · rw [if_neg c54] at H
                    have c54b0 : (t303 == 0) = false := beq_eq_false_iff_ne.mpr c54
                    have c54b1 : (t303 != 0) = true := bne_iff_ne.mpr c54
                    obtain rfl := Option.some.inj H
                    simp only [Option.some.injEq, Prod.mk.injEq] at H
                    obtain ⟨rfl⟩ := H
                    go_wp2
                    go_ret
                    exact ⟨by first | rfl | (simp [errW_none, errW_some] <;> rfl) | (simp [*, errW_none, errW_some] <;> rfl), by repeat (first | (with_reducible first | exact HB.out | apply below_alloc | apply pw_below_drewN | apply below_drew1 | refine below_set ?_ GE301.out | refine below_set ?_ GE310.out | refine below_set ?_ GE314.out) | exact HB.out)⟩
          · rw [if_neg c45] at H
            have c45b0 : (t309 == 0) = false := beq_eq_false_iff_ne.mpr c45
            have c45b1 : (t309 != 0) = true := bne_iff_ne.mpr c45
            by_cases c66 : t303 = 0
            · rw [if_pos c66] at H
              have c66b0 : (t303 == 0) = true := beq_iff_eq.mpr c66
              have c66b1 : (t303 != 0) = false := bne_eq_false_iff_eq.mpr c66
              clear c66
              replace H := Option.bind_eq_some_iff.mp H
              obtain ⟨⟨t322, t323, t324⟩, A670, H⟩ := H
              replace H : (if t324 = 0 then (some (t322 == t299 && (t323 == t300))) else (some false)) = some r := H
              have A67 := Aside0.mk A670
              clear A670
              by_cases c68 : t324 = 0
              · rw [if_pos c68] at H
                have c68b0 : (t324 == 0) = true := beq_iff_eq.mpr c68
                have c68b1 : (t324 != 0) = false := bne_eq_false_iff_eq.mpr c68
                clear c68
                obtain rfl := Option.some.inj H
                simp only [Option.some.injEq, Prod.mk.injEq] at H
                obtain ⟨rfl⟩ := H
                go_wp2_with (first | ((with_reducible refine gate_callee (f := 34) rfl ?_); refine goesL_ (some 87) rfl rfl Try.func34 (by kernel_rfl) rfl #[.string t302] rfl (by (try simp only [List.map_toArray, List.map_cons, List.map_nil]); first | done | rfl | (simp only [List.length_drop, List.length_take]; rfl) | (go_simp; done) | (simp; done) | (simp; rfl)) ?_; (with_reducible refine (impl_ReadRatio.calls kj9 t302 t322 t323 t324 _ A67.out).mono ?_); rintro e w69 ⟨rfl, hb⟩; refine ⟨_, rfl, ?_⟩; have n0_ := Aside0.mk (blk_below (g := gb301) (o := .cells #[.int .i64 t299, .int .i64 t300] 25 (0, 0)) (by (with_reducible repeat (first | refine blk_drewN ?_ _ | refine blk_drew ?_ | refine blk_alloc ?_ _)); exact BK301.out) hb); have n1_ := Aside0.mk (blk_below (g := gb310) (o := .cells #[.int .i64 t307, .int .i64 t308] 25 (0, 0)) (by (with_reducible repeat (first | refine blk_drewN ?_ _ | refine blk_drew ?_ | refine blk_alloc ?_ _)); exact BK310.out) hb); have n2_ := Aside0.mk (blk_below (g := gb314) (o := .cells #[.int .i64 t311, .int .i64 t312] 25 (0, 0)) (by (with_reducible repeat (first | refine blk_drewN ?_ _ | refine blk_drew ?_ | refine blk_alloc ?_ _)); exact BK314.out) hb); have n3_ := Aside0.mk (below_step (by repeat (first | (with_reducible first | exact HB.out | apply below_alloc | apply pw_below_drewN | apply below_drew1 | refine below_set ?_ GE301.out | refine below_set ?_ GE310.out | refine below_set ?_ GE314.out) | exact HB.out)) hb); clear BK301; clear BK310; clear BK314; clear HB; have BK301 := n0_; have BK310 := n1_; have BK314 := n2_; have HB := n3_; clear n0_ n1_ n2_ n3_; (try clear hb); (try clear hb2); (try clear hk); (try clear hi)) | ((with_reducible refine gate_dst (N := 15) rfl ?_); refine box_event ?hg (N := 15) ?hd (cs := #[.int .i64 0, .int .i64 0]) (t := 25) ?hr ?_; (case hd => rfl); (case hg => rfl); (case hr => first | (go_simp; done) | (go_simp; rfl)); intro gb325 hg w70 hbox hb; have n0_ := Aside0.mk (blk_below (g := gb301) (o := .cells #[.int .i64 t299, .int .i64 t300] 25 (0, 0)) (by (with_reducible repeat (first | refine blk_drewN ?_ _ | refine blk_drew ?_ | refine blk_alloc ?_ _)); exact BK301.out) hb); have n1_ := Aside0.mk (blk_below (g := gb310) (o := .cells #[.int .i64 t307, .int .i64 t308] 25 (0, 0)) (by (with_reducible repeat (first | refine blk_drewN ?_ _ | refine blk_drew ?_ | refine blk_alloc ?_ _)); exact BK310.out) hb); have n2_ := Aside0.mk (blk_below (g := gb314) (o := .cells #[.int .i64 t311, .int .i64 t312] 25 (0, 0)) (by (with_reducible repeat (first | refine blk_drewN ?_ _ | refine blk_drew ?_ | refine blk_alloc ?_ _)); exact BK314.out) hb); have n3_ := Aside0.mk (below_step (by repeat (first | (with_reducible first | exact HB.out | apply below_alloc | apply pw_below_drewN | apply below_drew1 | refine below_set ?_ GE301.out | refine below_set ?_ GE310.out | refine below_set ?_ GE314.out) | exact HB.out)) hb); have n4_ := Aside0.mk (hbox); have n5_ := Aside0.mk ((by rw [hg]; exact (below_size (by repeat (first | (with_reducible first | exact HB.out | apply below_alloc | apply pw_below_drewN | apply below_drew1 | refine below_set ?_ GE301.out | refine below_set ?_ GE310.out | refine below_set ?_ GE314.out) | exact HB.out))) : w.heap.size ≤ gb325)); have n6_ := Aside0.mk ((by rw [hg]; exact (below_size (by repeat (first | (with_reducible first | exact HB.out | apply below_alloc | apply pw_below_drewN | apply below_drew1 | refine below_set ?_ GE301.out | refine below_set ?_ GE310.out | refine below_set ?_ GE314.out) | exact HB.out))) : w.heap.size ≤ gb325)); have n7_ := Aside0.mk ((by rw [hg]; exact Nat.ne_of_lt (blk_lt (g := gb301) (o := .cells #[.int .i64 t299, .int .i64 t300] 25 (0, 0)) (by (with_reducible repeat (first | refine blk_drewN ?_ _ | refine blk_drew ?_ | refine blk_alloc ?_ _)); exact BK301.out)) : gb301 ≠ gb325)); have n8_ := Aside0.mk ((by rw [hg]; exact Nat.ne_of_gt (blk_lt (g := gb301) (o := .cells #[.int .i64 t299, .int .i64 t300] 25 (0, 0)) (by (with_reducible repeat (first | refine blk_drewN ?_ _ | refine blk_drew ?_ | refine blk_alloc ?_ _)); exact BK301.out)) : gb325 ≠ gb301)); have n9_ := Aside0.mk ((by rw [hg]; exact Nat.ne_of_lt (blk_lt (g := gb310) (o := .cells #[.int .i64 t307, .int .i64 t308] 25 (0, 0)) (by (with_reducible repeat (first | refine blk_drewN ?_ _ | refine blk_drew ?_ | refine blk_alloc ?_ _)); exact BK310.out)) : gb310 ≠ gb325)); have n10_ := Aside0.mk ((by rw [hg]; exact Nat.ne_of_gt (blk_lt (g := gb310) (o := .cells #[.int .i64 t307, .int .i64 t308] 25 (0, 0)) (by (with_reducible repeat (first | refine blk_drewN ?_ _ | refine blk_drew ?_ | refine blk_alloc ?_ _)); exact BK310.out)) : gb325 ≠ gb310)); have n11_ := Aside0.mk ((by rw [hg]; exact Nat.ne_of_lt (blk_lt (g := gb314) (o := .cells #[.int .i64 t311, .int .i64 t312] 25 (0, 0)) (by (with_reducible repeat (first | refine blk_drewN ?_ _ | refine blk_drew ?_ | refine blk_alloc ?_ _)); exact BK314.out)) : gb314 ≠ gb325)); have n12_ := Aside0.mk ((by rw [hg]; exact Nat.ne_of_gt (blk_lt (g := gb314) (o := .cells #[.int .i64 t311, .int .i64 t312] 25 (0, 0)) (by (with_reducible repeat (first | refine blk_drewN ?_ _ | refine blk_drew ?_ | refine blk_alloc ?_ _)); exact BK314.out)) : gb325 ≠ gb314)); clear BK301; clear BK310; clear BK314; clear HB; have BK301 := n0_; have BK310 := n1_; have BK314 := n2_; have HB := n3_; have BK325 := n4_; have GW325 := n5_; have GE325 := n6_; have NB301_325 := n7_; have NB325_301 := n8_; have NB310_325 := n9_; have NB325_310 := n10_; have NB314_325 := n11_; have NB325_314 := n12_; clear n0_ n1_ n2_ n3_ n4_ n5_ n6_ n7_ n8_ n9_ n10_ n11_ n12_; clear hb hbox hg; have hnb71 := NB325_301.out; have hnc71 := NB301_325.out; have hnb72 := NB325_310.out; have hnc72 := NB310_325.out; have hnb73 := NB325_314.out; have hnc73 := NB314_325.out; have hcz74_0 : w70.cell? ⟨gb325, 0, none⟩ = some (.int .i64 0) := (blk_cell BK325.out 0).trans rfl; have hcz74_1 : w70.cell? ⟨gb325, 1, none⟩ = some (.int .i64 0) := (blk_cell BK325.out 1).trans rfl; have hfz74_0 := blk_frozen BK325.out 0; have hfz74_1 := blk_frozen BK325.out 1; have hnb75 := NB301_310.out; have hnc75 := NB310_301.out; have hnb76 := NB301_314.out; have hnc76 := NB314_301.out; have hcz77_0 : w70.cell? ⟨gb301, 0, none⟩ = some (.int .i64 t299) := (blk_cell BK301.out 0).trans rfl; have hcz77_1 : w70.cell? ⟨gb301, 1, none⟩ = some (.int .i64 t300) := (blk_cell BK301.out 1).trans rfl; have hfz77_0 := blk_frozen BK301.out 0; have hfz77_1 := blk_frozen BK301.out 1))
                go_ret
                exact ⟨by first | rfl | (simp [errW_none, errW_some] <;> rfl) | (simp [*, errW_none, errW_some] <;> rfl), by repeat (first | (with_reducible first | exact HB.out | apply below_alloc | apply pw_below_drewN | apply below_drew1 | refine below_set ?_ GE301.out | refine below_set ?_ GE310.out | refine below_set ?_ GE314.out | refine below_set ?_ GE325.out) | exact HB.out)⟩
              · rw [if_neg c68] at H
                have c68b0 : (t324 == 0) = false := beq_eq_false_iff_ne.mpr c68
                have c68b1 : (t324 != 0) = true := bne_iff_ne.mpr c68
                obtain rfl := Option.some.inj H
                exact absurd hr_.out (by decide)
            · rw [if_neg c66] at H
              have c66b0 : (t303 == 0) = false := beq_eq_false_iff_ne.mpr c66
              have c66b1 : (t303 != 0) = true := bne_iff_ne.mpr c66
              obtain rfl := Option.some.inj H
              simp only [Option.some.injEq, Prod.mk.injEq] at H
              obtain ⟨rfl⟩ := H
              go_wp2
              go_ret
              exact ⟨by first | rfl | (simp [errW_none, errW_some] <;> rfl) | (simp [*, errW_none, errW_some] <;> rfl), by repeat (first | (with_reducible first | exact HB.out | apply below_alloc | apply pw_below_drewN | apply below_drew1 | refine below_set ?_ GE301.out | refine below_set ?_ GE310.out | refine below_set ?_ GE314.out) | exact HB.out)⟩

/-- THE ONE PURE STATEMENT of laws_FnRatioTexts: yours. -/
def laws_FnRatioTexts.Pure : Prop := ∀ (l0 : List Int), l0.length ≤ maxLen → l0.length * 1 ≤ 140737488351232 → (∀ x ∈ l0, (Lit.int .u8 x).wf = true) → ∃ k, laws_FnRatioTexts.f k l0 = some true
theorem laws_FnRatioTexts.walk (P : laws_FnRatioTexts.Pure) (a0 : Option Addr) (len0 cap0 : Nat) (z0 : List Int) (w : World) (w0 : (a0 = none ∧ len0 = 0 ∧ cap0 = 0 ∧ z0 = []) ∨ ∃ x, a0 = some x ∧ len0 ≤ cap0 ∧ cap0 ≤ maxLen ∧ z0.length = cap0 ∧ (∀ i, i < z0.length → w.cell? (x.add i) = some (.int .u8 (z0.getD i 0))) ∧ ∀ n ∈ z0, (Lit.int .u8 n).wf = true) (y0 : len0 * 1 ≤ 140737488351232) :
    Calls Try.prog 14 #[.slice a0 len0 cap0] w fun e w' => e = .returned (.bool true) ∧ Below w.heap.size w w' := by
  obtain ⟨l0, rfl, hr0, hm0, hw0, hc0⟩ := ReadsInt.ofRowC w0
  obtain ⟨k, h⟩ := P l0 hm0 y0 hw0
  refine (laws_FnRatioTexts.calls k _ _ l0 true w (Kd.C_of_reads (d := (0 : Int)) (h1 := fun _ => rfl) hr0) hc0 h ⟨rfl⟩).mono ?_
  rintro e w' ⟨rfl, hd⟩
  exact ⟨rfl, hd⟩

end Go.Proofs.Ytpkadlgnkcbcbaa.QFnRatioTexts
