-- Written by a program of this project's session, after the kit's print (a turned copy of its programs). Lean checks it.
import Derived.Test.YtgcjjpaljfgiaaaQFnTimesx0
import Derived.Test.YtgcjjpaljfgiaaaQFnTimesx1
import Derived.Test.YtgcjjpaljfgiaaaQFnTimesx2
import Derived.Test.YtgcjjpaljfgiaaaQFnTimesx3
import Derived.Test.YtgcjjpaljfgiaaaQFnTimesx5
import Derived.Test.YtgcjjpaljfgiaaaQFnTimesx6
namespace Go.Proofs.Ytgcjjpaljfgiaaa.QFnTimes
open Go.RowKit Go.Proofs.YtgcjjpaljfgiaaaW.PrintWords Go.Proofs.YtgcjjpaljfgiaaaW.PrintLast Go.Proofs.YtgcjjpaljfgiaaaW.PrintMore
attribute [local go_sem] max2_int min2_int max_two min_two max_three min_three max_four min_four   -- for this text's walks alone
set_option linter.unusedVariables false
set_option linter.unusedSimpArgs false

/-! ### laws_FnTimes: function 14 -/
mutual
def laws_FnTimes.j0 : Nat → Int → ByteArray → Int → ByteArray → Int → Int → Bool → Option (Bool)
  | 0, _, _, _, _, _, _, _ => none
  | k + 1, x3, x4, x5, x8, x9, x10, x61 => if x61 = true then (some false) else (if x10 = 0 then ((impl_TimeText.f k x9).bind fun bt226 => (if bt226.2 = 0 then (laws_FnTimes.j1 k x3 x4 x5 (bt226.1.toList != x8.toList)) else (laws_FnTimes.j1 k x3 x4 x5 true))) else (if x5 = 0 then ((impl_ReadTime.f k x4).bind fun bt230 => (if bt230.2 = 0 then (some (bt230.1 == x3)) else (some false))) else (some true)))
def laws_FnTimes.j1 : Nat → Int → ByteArray → Int → Bool → Option (Bool)
  | 0, _, _, _, _ => none
  | k + 1, x3, x4, x5, x75 => if x75 = true then (some false) else (if x5 = 0 then ((impl_ReadTime.f k x4).bind fun bt228 => (if bt228.2 = 0 then (some (bt228.1 == x3)) else (some false))) else (some true))
end
def laws_FnTimes.f (k : Nat) (l0 : List Int) : Option (Bool) := (laws_big.f l0).bind fun t215 => (if t215 = true then (some true) else ((spec_DrawTimeText.f k l0).bind fun t216 => ((impl_TimeText.f k t216).bind fun bt217 => ((spec_TimeText.f k t216).bind fun bt219 => ((spec_DrawReadTime.f k l0).bind fun t221 => ((impl_ReadTime.f k t221).bind fun bt222 => ((spec_ReadTime.f k t221).bind fun bt224 => (if bt217.2 = bt219.2 then (if bt217.1.toList = bt219.1.toList then (if bt222.2 = bt224.2 then (laws_FnTimes.j0 k t216 bt217.1 bt217.2 t221 bt222.1 bt222.2 (!(bt222.1 == bt224.1))) else (laws_FnTimes.j0 k t216 bt217.1 bt217.2 t221 bt222.1 bt222.2 true)) else (laws_FnTimes.j0 k t216 bt217.1 bt217.2 t221 bt222.1 bt222.2 true)) else (laws_FnTimes.j0 k t216 bt217.1 bt217.2 t221 bt222.1 bt222.2 true)))))))))
theorem laws_FnTimes.mono_l : ∀ k, (∀ y0 y1 y2 y3 y4 y5 y6, LeO (laws_FnTimes.j0 k y0 y1 y2 y3 y4 y5 y6) (laws_FnTimes.j0 (k + 1) y0 y1 y2 y3 y4 y5 y6)) ∧ (∀ y0 y1 y2 y3, LeO (laws_FnTimes.j1 k y0 y1 y2 y3) (laws_FnTimes.j1 (k + 1) y0 y1 y2 y3))
  | 0 => ⟨fun _ _ _ _ _ _ _ r h => by simp [laws_FnTimes.j0] at h, fun _ _ _ _ r h => by simp [laws_FnTimes.j1] at h⟩
  | k + 1 => by
    obtain ⟨ih0, ih1⟩ := laws_FnTimes.mono_l k
    refine ⟨?_, ?_⟩
    · intro y0 y1 y2 y3 y4 y5 y6
      unfold laws_FnTimes.j0
      repeat' first
      | (with_reducible exact ih0 _ _ _ _ _ _ _)
      | (with_reducible exact ih1 _ _ _ _)
      | (with_reducible exact impl_ReadTime.mono _ _)
      | (with_reducible exact impl_TimeText.mono _ _)
      | (with_reducible exact spec_DrawReadTime.mono _ _)
      | (with_reducible exact spec_DrawTimeText.mono _ _)
      | (with_reducible exact spec_ReadTime.mono _ _)
      | (with_reducible exact spec_TimeText.mono _ _)
      | (with_reducible exact LeO.refl _)
      | (with_reducible exact LeO.none _)
      | (with_reducible refine LeO.ite ?_ ?_)
      | (with_reducible refine LeO.bind ?_ (fun _ => ?_))
      | exact ih0 _ _ _ _ _ _ _
      | exact ih1 _ _ _ _
      | exact impl_ReadTime.mono _ _
      | exact impl_TimeText.mono _ _
      | exact spec_DrawReadTime.mono _ _
      | exact spec_DrawTimeText.mono _ _
      | exact spec_ReadTime.mono _ _
      | exact spec_TimeText.mono _ _
      | exact LeO.none _
      | refine LeO.ite ?_ ?_
      | refine LeO.bind ?_ (fun _ => ?_)
    · intro y0 y1 y2 y3
      unfold laws_FnTimes.j1
      repeat' first
      | (with_reducible exact ih0 _ _ _ _ _ _ _)
      | (with_reducible exact ih1 _ _ _ _)
      | (with_reducible exact impl_ReadTime.mono _ _)
      | (with_reducible exact impl_TimeText.mono _ _)
      | (with_reducible exact spec_DrawReadTime.mono _ _)
      | (with_reducible exact spec_DrawTimeText.mono _ _)
      | (with_reducible exact spec_ReadTime.mono _ _)
      | (with_reducible exact spec_TimeText.mono _ _)
      | (with_reducible exact LeO.refl _)
      | (with_reducible exact LeO.none _)
      | (with_reducible refine LeO.ite ?_ ?_)
      | (with_reducible refine LeO.bind ?_ (fun _ => ?_))
      | exact ih0 _ _ _ _ _ _ _
      | exact ih1 _ _ _ _
      | exact impl_ReadTime.mono _ _
      | exact impl_TimeText.mono _ _
      | exact spec_DrawReadTime.mono _ _
      | exact spec_DrawTimeText.mono _ _
      | exact spec_ReadTime.mono _ _
      | exact spec_TimeText.mono _ _
      | exact LeO.none _
      | refine LeO.ite ?_ ?_
      | refine LeO.bind ?_ (fun _ => ?_)
theorem laws_FnTimes.mono : ∀ a0 k, LeO (laws_FnTimes.f k a0) (laws_FnTimes.f (k + 1) a0) := by
  intro a0 k
  obtain ⟨ih0, ih1⟩ := laws_FnTimes.mono_l k
  unfold laws_FnTimes.f
  repeat' first
      | (with_reducible exact ih0 _ _ _ _ _ _ _)
      | (with_reducible exact ih1 _ _ _ _)
      | (with_reducible exact impl_ReadTime.mono _ _)
      | (with_reducible exact impl_TimeText.mono _ _)
      | (with_reducible exact spec_DrawReadTime.mono _ _)
      | (with_reducible exact spec_DrawTimeText.mono _ _)
      | (with_reducible exact spec_ReadTime.mono _ _)
      | (with_reducible exact spec_TimeText.mono _ _)
      | (with_reducible exact LeO.refl _)
      | (with_reducible exact LeO.none _)
      | (with_reducible refine LeO.ite ?_ ?_)
      | (with_reducible refine LeO.bind ?_ (fun _ => ?_))
      | exact ih0 _ _ _ _ _ _ _
      | exact ih1 _ _ _ _
      | exact impl_ReadTime.mono _ _
      | exact impl_TimeText.mono _ _
      | exact spec_DrawReadTime.mono _ _
      | exact spec_DrawTimeText.mono _ _
      | exact spec_ReadTime.mono _ _
      | exact spec_TimeText.mono _ _
      | exact LeO.none _
      | refine LeO.ite ?_ ?_
      | refine LeO.bind ?_ (fun _ => ?_)
set_option maxHeartbeats 8000000 in
set_option maxRecDepth 100000 in
theorem laws_FnTimes.calls (k : Nat) (A0 : Option Addr) (c0 : Nat) (l0 : List Int) (r : Bool) (w : World) (hr0 : Kd.C (Kd.int .u8) w A0 l0.length l0) (hc0 : l0.length ≤ c0) (h : laws_FnTimes.f k l0 = some r) (hr_ : Aside0 (r = true)) :
    Calls Try.prog 14 #[.slice A0 l0.length c0] w fun e w' => e = .returned (.bool r) ∧ Below w.heap.size w w' := by
  have HR0 := Aside0.mk hr0
  have HC0 := Aside0.mk hc0
  clear hr0 hc0
  have HB := Aside0.mk (Below.refl w.heap.size w)
  have H : ((laws_big.f l0).bind fun t215 => (if t215 = true then (some true) else ((spec_DrawTimeText.f k l0).bind fun t216 => ((impl_TimeText.f k t216).bind fun bt217 => ((spec_TimeText.f k t216).bind fun bt219 => ((spec_DrawReadTime.f k l0).bind fun t221 => ((impl_ReadTime.f k t221).bind fun bt222 => ((spec_ReadTime.f k t221).bind fun bt224 => (if bt217.2 = bt219.2 then (if bt217.1.toList = bt219.1.toList then (if bt222.2 = bt224.2 then (laws_FnTimes.j0 k t216 bt217.1 bt217.2 t221 bt222.1 bt222.2 (!(bt222.1 == bt224.1))) else (laws_FnTimes.j0 k t216 bt217.1 bt217.2 t221 bt222.1 bt222.2 true)) else (laws_FnTimes.j0 k t216 bt217.1 bt217.2 t221 bt222.1 bt222.2 true)) else (laws_FnTimes.j0 k t216 bt217.1 bt217.2 t221 bt222.1 bt222.2 true)))))))))) = some r := h
  clear h
  replace H := Option.bind_eq_some_iff.mp H
  obtain ⟨t215, A20, H⟩ := H
  replace H : (if t215 = true then (some true) else ((spec_DrawTimeText.f k l0).bind fun t216 => ((impl_TimeText.f k t216).bind fun bt217 => ((spec_TimeText.f k t216).bind fun bt219 => ((spec_DrawReadTime.f k l0).bind fun t221 => ((impl_ReadTime.f k t221).bind fun bt222 => ((spec_ReadTime.f k t221).bind fun bt224 => (if bt217.2 = bt219.2 then (if bt217.1.toList = bt219.1.toList then (if bt222.2 = bt224.2 then (laws_FnTimes.j0 k t216 bt217.1 bt217.2 t221 bt222.1 bt222.2 (!(bt222.1 == bt224.1))) else (laws_FnTimes.j0 k t216 bt217.1 bt217.2 t221 bt222.1 bt222.2 true)) else (laws_FnTimes.j0 k t216 bt217.1 bt217.2 t221 bt222.1 bt222.2 true)) else (laws_FnTimes.j0 k t216 bt217.1 bt217.2 t221 bt222.1 bt222.2 true))))))))) = some r := H
  have A2 := Aside0.mk A20
  clear A20
  by_cases c3 : t215 = true
  · subst c3
    have H1 : (some true) = some r := by rw [if_pos rfl] at H; exact H
    clear H
    have H := H1
    clear H1
    obtain rfl := Option.some.inj H
    simp only [Option.some.injEq, Prod.mk.injEq] at H
    obtain ⟨rfl⟩ := H
    go_enter Try.func14, Try.ntmps14
    go_wp2_with (first | ((with_reducible refine gate_callee (f := 20) rfl ?_); refine goesL_ (some 18) rfl rfl Try.func20 (by kernel_rfl) rfl #[.slice A0 l0.length c0] rfl (by (try simp only [List.map_toArray, List.map_cons, List.map_nil]); first | done | rfl | (simp only [List.length_drop, List.length_take]; rfl) | (go_simp; done) | (simp; done) | (simp; rfl)) ?_; (with_reducible refine (laws_big.calls _ _ l0 true _ ?side1 ?side2 A2.out).mono ?_); (case side1 => repeat (first | exact HR0.out | (with_reducible refine Kd.C_alloc ?_ _) | (with_reducible refine Kd.C_drewN ?_ _) | (with_reducible refine Kd.C_drew ?_))); (case side2 => exact HC0.out); rintro e w' ⟨rfl, ⟨nd, rfl⟩⟩; refine ⟨_, rfl, ?_⟩))
    go_ret
    exact ⟨by first | rfl | (simp [errW_none, errW_some] <;> rfl) | (simp [*, errW_none, errW_some] <;> rfl), by repeat (first | (with_reducible first | exact HB.out | apply below_alloc | apply pw_below_drewN | apply below_drew1) | exact HB.out)⟩
  · replace c3 := Bool.eq_false_iff.mpr c3
    subst c3
    have H1 : ((spec_DrawTimeText.f k l0).bind fun t216 => ((impl_TimeText.f k t216).bind fun bt217 => ((spec_TimeText.f k t216).bind fun bt219 => ((spec_DrawReadTime.f k l0).bind fun t221 => ((impl_ReadTime.f k t221).bind fun bt222 => ((spec_ReadTime.f k t221).bind fun bt224 => (if bt217.2 = bt219.2 then (if bt217.1.toList = bt219.1.toList then (if bt222.2 = bt224.2 then (laws_FnTimes.j0 k t216 bt217.1 bt217.2 t221 bt222.1 bt222.2 (!(bt222.1 == bt224.1))) else (laws_FnTimes.j0 k t216 bt217.1 bt217.2 t221 bt222.1 bt222.2 true)) else (laws_FnTimes.j0 k t216 bt217.1 bt217.2 t221 bt222.1 bt222.2 true)) else (laws_FnTimes.j0 k t216 bt217.1 bt217.2 t221 bt222.1 bt222.2 true)))))))) = some r := by rw [if_neg (show ¬ (false = true) by decide)] at H; exact H
    clear H
    have H := H1
    clear H1
    replace H := Option.bind_eq_some_iff.mp H
    obtain ⟨t216, A40, H⟩ := H
    replace H : ((impl_TimeText.f k t216).bind fun bt217 => ((spec_TimeText.f k t216).bind fun bt219 => ((spec_DrawReadTime.f k l0).bind fun t221 => ((impl_ReadTime.f k t221).bind fun bt222 => ((spec_ReadTime.f k t221).bind fun bt224 => (if bt217.2 = bt219.2 then (if bt217.1.toList = bt219.1.toList then (if bt222.2 = bt224.2 then (laws_FnTimes.j0 k t216 bt217.1 bt217.2 t221 bt222.1 bt222.2 (!(bt222.1 == bt224.1))) else (laws_FnTimes.j0 k t216 bt217.1 bt217.2 t221 bt222.1 bt222.2 true)) else (laws_FnTimes.j0 k t216 bt217.1 bt217.2 t221 bt222.1 bt222.2 true)) else (laws_FnTimes.j0 k t216 bt217.1 bt217.2 t221 bt222.1 bt222.2 true))))))) = some r := H
    have A4 := Aside0.mk A40
    clear A40
    replace H := Option.bind_eq_some_iff.mp H
    obtain ⟨⟨t217, t218⟩, A50, H⟩ := H
    replace H : ((spec_TimeText.f k t216).bind fun bt219 => ((spec_DrawReadTime.f k l0).bind fun t221 => ((impl_ReadTime.f k t221).bind fun bt222 => ((spec_ReadTime.f k t221).bind fun bt224 => (if t218 = bt219.2 then (if t217.toList = bt219.1.toList then (if bt222.2 = bt224.2 then (laws_FnTimes.j0 k t216 t217 t218 t221 bt222.1 bt222.2 (!(bt222.1 == bt224.1))) else (laws_FnTimes.j0 k t216 t217 t218 t221 bt222.1 bt222.2 true)) else (laws_FnTimes.j0 k t216 t217 t218 t221 bt222.1 bt222.2 true)) else (laws_FnTimes.j0 k t216 t217 t218 t221 bt222.1 bt222.2 true)))))) = some r := H
    have A5 := Aside0.mk A50
    clear A50
    replace H := Option.bind_eq_some_iff.mp H
    obtain ⟨⟨t219, t220⟩, A60, H⟩ := H
    replace H : ((spec_DrawReadTime.f k l0).bind fun t221 => ((impl_ReadTime.f k t221).bind fun bt222 => ((spec_ReadTime.f k t221).bind fun bt224 => (if t218 = t220 then (if t217.toList = t219.toList then (if bt222.2 = bt224.2 then (laws_FnTimes.j0 k t216 t217 t218 t221 bt222.1 bt222.2 (!(bt222.1 == bt224.1))) else (laws_FnTimes.j0 k t216 t217 t218 t221 bt222.1 bt222.2 true)) else (laws_FnTimes.j0 k t216 t217 t218 t221 bt222.1 bt222.2 true)) else (laws_FnTimes.j0 k t216 t217 t218 t221 bt222.1 bt222.2 true))))) = some r := H
    have A6 := Aside0.mk A60
    clear A60
    replace H := Option.bind_eq_some_iff.mp H
    obtain ⟨t221, A70, H⟩ := H
    replace H : ((impl_ReadTime.f k t221).bind fun bt222 => ((spec_ReadTime.f k t221).bind fun bt224 => (if t218 = t220 then (if t217.toList = t219.toList then (if bt222.2 = bt224.2 then (laws_FnTimes.j0 k t216 t217 t218 t221 bt222.1 bt222.2 (!(bt222.1 == bt224.1))) else (laws_FnTimes.j0 k t216 t217 t218 t221 bt222.1 bt222.2 true)) else (laws_FnTimes.j0 k t216 t217 t218 t221 bt222.1 bt222.2 true)) else (laws_FnTimes.j0 k t216 t217 t218 t221 bt222.1 bt222.2 true)))) = some r := H
    have A7 := Aside0.mk A70
    clear A70
    replace H := Option.bind_eq_some_iff.mp H
    obtain ⟨⟨t222, t223⟩, A80, H⟩ := H
    replace H : ((spec_ReadTime.f k t221).bind fun bt224 => (if t218 = t220 then (if t217.toList = t219.toList then (if t223 = bt224.2 then (laws_FnTimes.j0 k t216 t217 t218 t221 t222 t223 (!(t222 == bt224.1))) else (laws_FnTimes.j0 k t216 t217 t218 t221 t222 t223 true)) else (laws_FnTimes.j0 k t216 t217 t218 t221 t222 t223 true)) else (laws_FnTimes.j0 k t216 t217 t218 t221 t222 t223 true))) = some r := H
    have A8 := Aside0.mk A80
    clear A80
    replace H := Option.bind_eq_some_iff.mp H
    obtain ⟨⟨t224, t225⟩, A90, H⟩ := H
    replace H : (if t218 = t220 then (if t217.toList = t219.toList then (if t223 = t225 then (laws_FnTimes.j0 k t216 t217 t218 t221 t222 t223 (!(t222 == t224))) else (laws_FnTimes.j0 k t216 t217 t218 t221 t222 t223 true)) else (laws_FnTimes.j0 k t216 t217 t218 t221 t222 t223 true)) else (laws_FnTimes.j0 k t216 t217 t218 t221 t222 t223 true)) = some r := H
    have A9 := Aside0.mk A90
    clear A90
    have HC10 := Aside0.mk H
    clear H
    go_enter Try.func14, Try.ntmps14
    go_upto_region 9 with (first | ((with_reducible refine gate_callee (f := 20) rfl ?_); refine goesL_ (some 18) rfl rfl Try.func20 (by kernel_rfl) rfl #[.slice A0 l0.length c0] rfl (by (try simp only [List.map_toArray, List.map_cons, List.map_nil]); first | done | rfl | (simp only [List.length_drop, List.length_take]; rfl) | (go_simp; done) | (simp; done) | (simp; rfl)) ?_; (with_reducible refine (laws_big.calls _ _ l0 false _ ?side1 ?side2 A2.out).mono ?_); (case side1 => repeat (first | exact HR0.out | (with_reducible refine Kd.C_alloc ?_ _) | (with_reducible refine Kd.C_drewN ?_ _) | (with_reducible refine Kd.C_drew ?_))); (case side2 => exact HC0.out); rintro e w' ⟨rfl, ⟨nd, rfl⟩⟩; refine ⟨_, rfl, ?_⟩) | ((with_reducible refine gate_callee (f := 51) rfl ?_); refine goesL_ (some 20) rfl rfl Try.func51 (by kernel_rfl) rfl #[.slice A0 l0.length c0] rfl (by (try simp only [List.map_toArray, List.map_cons, List.map_nil]); first | done | rfl | (simp only [List.length_drop, List.length_take]; rfl) | (go_simp; done) | (simp; done) | (simp; rfl)) ?_; (with_reducible refine (spec_DrawTimeText.calls k _ _ l0 t216 _ ?side1 ?side2 A4.out).mono ?_); (case side1 => repeat (first | exact HR0.out | (with_reducible refine Kd.C_alloc ?_ _) | (with_reducible refine Kd.C_drewN ?_ _) | (with_reducible refine Kd.C_drew ?_))); (case side2 => exact HC0.out); rintro e w11 ⟨rfl, hb⟩; refine ⟨_, rfl, ?_⟩; have n0_ := Aside0.mk (below_step (by repeat (first | (with_reducible first | exact HB.out | apply below_alloc | apply pw_below_drewN | apply below_drew1) | exact HB.out)) hb); clear HB; have HB := n0_; clear n0_; (try clear hb); (try clear hb2); (try clear hk); (try clear hi)) | ((with_reducible refine gate_callee (f := 19) rfl ?_); refine goesL_ (some 23) rfl rfl Try.func19 (by kernel_rfl) rfl #[.int .i64 t216] rfl (by (try simp only [List.map_toArray, List.map_cons, List.map_nil]); first | done | rfl | (simp only [List.length_drop, List.length_take]; rfl) | (go_simp; done) | (simp; done) | (simp; rfl)) ?_; (with_reducible refine (impl_TimeText.calls k t216 t217 t218 _ A5.out).mono ?_); rintro e w12 ⟨rfl, hb⟩; refine ⟨_, rfl, ?_⟩; have n0_ := Aside0.mk (below_step (by repeat (first | (with_reducible first | exact HB.out | apply below_alloc | apply pw_below_drewN | apply below_drew1) | exact HB.out)) hb); clear HB; have HB := n0_; clear n0_; (try clear hb); (try clear hb2); (try clear hk); (try clear hi)) | ((with_reducible refine gate_callee (f := 18) rfl ?_); refine goesL_ (some 28) rfl rfl Try.func18 (by kernel_rfl) rfl #[.int .i64 t216] rfl (by (try simp only [List.map_toArray, List.map_cons, List.map_nil]); first | done | rfl | (simp only [List.length_drop, List.length_take]; rfl) | (go_simp; done) | (simp; done) | (simp; rfl)) ?_; (with_reducible refine (spec_TimeText.calls k t216 t219 t220 _ A6.out).mono ?_); rintro e w13 ⟨rfl, hb⟩; refine ⟨_, rfl, ?_⟩; have n0_ := Aside0.mk (below_step (by repeat (first | (with_reducible first | exact HB.out | apply below_alloc | apply pw_below_drewN | apply below_drew1) | exact HB.out)) hb); clear HB; have HB := n0_; clear n0_; (try clear hb); (try clear hb2); (try clear hk); (try clear hi)) | ((with_reducible refine gate_callee (f := 52) rfl ?_); refine goesL_ (some 32) rfl rfl Try.func52 (by kernel_rfl) rfl #[.slice A0 l0.length c0] rfl (by (try simp only [List.map_toArray, List.map_cons, List.map_nil]); first | done | rfl | (simp only [List.length_drop, List.length_take]; rfl) | (go_simp; done) | (simp; done) | (simp; rfl)) ?_; (with_reducible refine (spec_DrawReadTime.calls k _ _ l0 t221 _ ?side1 ?side2 A7.out).mono ?_); (case side1 => repeat (first | exact (Kd.C_below HR0.out HB.out) | (with_reducible refine Kd.C_alloc ?_ _) | (with_reducible refine Kd.C_drewN ?_ _) | (with_reducible refine Kd.C_drew ?_))); (case side2 => exact HC0.out); rintro e w14 ⟨rfl, hb⟩; refine ⟨_, rfl, ?_⟩; have n0_ := Aside0.mk (below_step (by repeat (first | (with_reducible first | exact HB.out | apply below_alloc | apply pw_below_drewN | apply below_drew1) | exact HB.out)) hb); clear HB; have HB := n0_; clear n0_; (try clear hb); (try clear hb2); (try clear hk); (try clear hi)) | ((with_reducible refine gate_callee (f := 29) rfl ?_); refine goesL_ (some 35) rfl rfl Try.func29 (by kernel_rfl) rfl #[.string t221] rfl (by (try simp only [List.map_toArray, List.map_cons, List.map_nil]); first | done | rfl | (simp only [List.length_drop, List.length_take]; rfl) | (go_simp; done) | (simp; done) | (simp; rfl)) ?_; (with_reducible refine (impl_ReadTime.calls k t221 t222 t223 _ A8.out).mono ?_); rintro e w15 ⟨rfl, hb⟩; refine ⟨_, rfl, ?_⟩; have n0_ := Aside0.mk (below_step (by repeat (first | (with_reducible first | exact HB.out | apply below_alloc | apply pw_below_drewN | apply below_drew1) | exact HB.out)) hb); clear HB; have HB := n0_; clear n0_; (try clear hb); (try clear hb2); (try clear hk); (try clear hi)) | ((with_reducible refine gate_callee (f := 28) rfl ?_); refine goesL_ (some 40) rfl rfl Try.func28 (by kernel_rfl) rfl #[.string t221] rfl (by (try simp only [List.map_toArray, List.map_cons, List.map_nil]); first | done | rfl | (simp only [List.length_drop, List.length_take]; rfl) | (go_simp; done) | (simp; done) | (simp; rfl)) ?_; (with_reducible refine (spec_ReadTime.calls k t221 t224 t225 _ A9.out).mono ?_); rintro e w16 ⟨rfl, hb⟩; refine ⟨_, rfl, ?_⟩; have n0_ := Aside0.mk (below_step (by repeat (first | (with_reducible first | exact HB.out | apply below_alloc | apply pw_below_drewN | apply below_drew1) | exact HB.out)) hb); clear HB; have HB := n0_; clear n0_; (try clear hb); (try clear hb2); (try clear hk); (try clear hi)))
    (try simp only [Act.put, List.setIfInBounds_toArray, List.set_cons_zero, List.set_cons_succ])
    go_cut [61] (fun v61 wc => ∃ (kq : Nat) (x61_9 : Bool), v61 = .bool x61_9 ∧ Aside0 (laws_FnTimes.j0 kq t216 t217 t218 t221 t222 t223 x61_9 = some r) ∧ Aside0 (kq ≤ k) ∧ Aside0 (Below w.heap.size w wc))
    case first =>
      have H := HC10.out
      clear HC10
      by_cases c17 : t218 = t220
      · rw [if_pos c17] at H
        have c17b0 : (t218 == t220) = true := beq_iff_eq.mpr c17
        have c17b1 : (t218 != t220) = false := bne_eq_false_iff_eq.mpr c17
        clear c17
        (first | rw [c17b0] | (simp only [i64_w, i32_w]; rw [c17b0]) | skip)
        by_cases c18 : t217.toList = t219.toList
        · rw [if_pos c18] at H
          have c18b0 : (t217.toList == t219.toList) = true := beq_iff_eq.mpr c18
          have c18b1 : (t217.toList != t219.toList) = false := bne_eq_false_iff_eq.mpr c18
          clear c18
          by_cases c19 : t223 = t225
          · rw [if_pos c19] at H
            have c19b0 : (t223 == t225) = true := beq_iff_eq.mpr c19
            have c19b1 : (t223 != t225) = false := bne_eq_false_iff_eq.mpr c19
            clear c19
            have H' := Aside0.mk H
            clear H
            go_wp2
            go_meet
            case rel => exact ⟨_, (!(t222 == t224)), (by first | rfl | (simp; done) | (simp [*]; done)), H', ⟨by first | omega | exact Nat.le_refl _⟩, ⟨by repeat (first | (with_reducible first | exact HB.out | apply below_alloc | apply pw_below_drewN | apply below_drew1) | exact HB.out)⟩⟩
          · rw [if_neg c19] at H
            have c19b0 : (t223 == t225) = false := beq_eq_false_iff_ne.mpr c19
            have c19b1 : (t223 != t225) = true := bne_iff_ne.mpr c19
            have H' := Aside0.mk H
            clear H
            go_wp2
            go_meet
            case rel => exact ⟨_, (true), (by first | rfl | (simp; done) | (simp [*]; done)), H', ⟨by first | omega | exact Nat.le_refl _⟩, ⟨by repeat (first | (with_reducible first | exact HB.out | apply below_alloc | apply pw_below_drewN | apply below_drew1) | exact HB.out)⟩⟩
        · rw [if_neg c18] at H
          have c18b0 : (t217.toList == t219.toList) = false := beq_eq_false_iff_ne.mpr c18
          have c18b1 : (t217.toList != t219.toList) = true := bne_iff_ne.mpr c18
          have H' := Aside0.mk H
          clear H
          go_wp2
          go_meet
          case rel => exact ⟨_, (true), (by first | rfl | (simp; done) | (simp [*]; done)), H', ⟨by first | omega | exact Nat.le_refl _⟩, ⟨by repeat (first | (with_reducible first | exact HB.out | apply below_alloc | apply pw_below_drewN | apply below_drew1) | exact HB.out)⟩⟩
      · rw [if_neg c17] at H
        have c17b0 : (t218 == t220) = false := beq_eq_false_iff_ne.mpr c17
        have c17b1 : (t218 != t220) = true := bne_iff_ne.mpr c17
        (first | rw [c17b0] | (simp only [i64_w, i32_w]; rw [c17b0]) | skip)
        have H' := Aside0.mk H
        clear H
        go_wp2
        go_meet
        case rel => exact ⟨_, (true), (by first | rfl | (simp; done) | (simp [*]; done)), H', ⟨by first | omega | exact Nat.le_refl _⟩, ⟨by repeat (first | (with_reducible first | exact HB.out | apply below_alloc | apply pw_below_drewN | apply below_drew1) | exact HB.out)⟩⟩
    case rest =>
      clear HC10
      try clear c1
      try clear c2
      try clear p2
      try clear c3
      try clear c5
      try clear c14
      try clear c17
      try clear c17b0
      try clear c17b1
      try clear c18
      try clear c18b0
      try clear c18b1
      try clear c19
      try clear c19b0
      try clear c19b1
      obtain ⟨kq, x61_9, rfl, HA, HJ9, HB⟩ := hcut
      cases kq with
      | zero => exact absurd HA.out (by simp [laws_FnTimes.j0])
      | succ kj9 =>
        have H := HA.out
        clear HA
        simp only [laws_FnTimes.j0] at H
        by_cases c20 : x61_9 = true
        · subst c20
          have H1 : (some false) = some r := by rw [if_pos rfl] at H; exact H
          clear H
          have H := H1
          clear H1
          obtain rfl := Option.some.inj H
          exact absurd hr_.out (by decide)
        · replace c20 := Bool.eq_false_iff.mpr c20
          subst c20
          have H1 : (if t223 = 0 then ((impl_TimeText.f kj9 t222).bind fun bt226 => (if bt226.2 = 0 then (laws_FnTimes.j1 kj9 t216 t217 t218 (bt226.1.toList != t221.toList)) else (laws_FnTimes.j1 kj9 t216 t217 t218 true))) else (if t218 = 0 then ((impl_ReadTime.f kj9 t217).bind fun bt230 => (if bt230.2 = 0 then (some (bt230.1 == t216)) else (some false))) else (some true))) = some r := by rw [if_neg (show ¬ (false = true) by decide)] at H; exact H
          clear H
          have H := H1
          clear H1
          by_cases c21 : t223 = 0
          · rw [if_pos c21] at H
            have c21b0 : (t223 == 0) = true := beq_iff_eq.mpr c21
            have c21b1 : (t223 != 0) = false := bne_eq_false_iff_eq.mpr c21
            clear c21
            replace H := Option.bind_eq_some_iff.mp H
            obtain ⟨⟨t226, t227⟩, A220, H⟩ := H
            replace H : (if t227 = 0 then (laws_FnTimes.j1 kj9 t216 t217 t218 (t226.toList != t221.toList)) else (laws_FnTimes.j1 kj9 t216 t217 t218 true)) = some r := H
            have A22 := Aside0.mk A220
            clear A220
            have HC23 := Aside0.mk H
            clear H
            go_upto_region 13 with (first | ((with_reducible refine gate_callee (f := 19) rfl ?_); refine goesL_ (some 66) rfl rfl Try.func19 (by kernel_rfl) rfl #[.int .i64 t222] rfl (by (try simp only [List.map_toArray, List.map_cons, List.map_nil]); first | done | rfl | (simp only [List.length_drop, List.length_take]; rfl) | (go_simp; done) | (simp; done) | (simp; rfl)) ?_; (with_reducible refine (impl_TimeText.calls kj9 t222 t226 t227 _ A22.out).mono ?_); rintro e w24 ⟨rfl, hb⟩; refine ⟨_, rfl, ?_⟩; have n0_ := Aside0.mk (below_step (by repeat (first | (with_reducible first | exact HB.out | apply below_alloc | apply pw_below_drewN | apply below_drew1) | exact HB.out)) hb); clear HB; have HB := n0_; clear n0_; (try clear hb); (try clear hb2); (try clear hk); (try clear hi)))
            (try simp only [Act.put, List.setIfInBounds_toArray, List.set_cons_zero, List.set_cons_succ])
            go_cut [75] (fun v75 wc => ∃ (kq : Nat) (x75_22 : Bool), v75 = .bool x75_22 ∧ Aside0 (laws_FnTimes.j1 kq t216 t217 t218 x75_22 = some r) ∧ Aside0 (kq ≤ kj9) ∧ Aside0 (Below w.heap.size w wc))
            case first =>
              have H := HC23.out
              clear HC23
              by_cases c25 : t227 = 0
              · rw [if_pos c25] at H
                have c25b0 : (t227 == 0) = true := beq_iff_eq.mpr c25
                have c25b1 : (t227 != 0) = false := bne_eq_false_iff_eq.mpr c25
                clear c25
                (first | rw [c25b0] | (simp only [i64_w, i32_w]; rw [c25b0]) | skip)
                have H' := Aside0.mk H
                clear H
                go_wp2
                go_meet
                case rel => exact ⟨_, ((t226.toList != t221.toList)), (by first | rfl | (simp; done) | (simp [*]; done)), H', ⟨by have := HJ9.out; first | omega | exact Nat.le_refl _⟩, ⟨by repeat (first | (with_reducible first | exact HB.out | apply below_alloc | apply pw_below_drewN | apply below_drew1) | exact HB.out)⟩⟩
              · rw [if_neg c25] at H
                have c25b0 : (t227 == 0) = false := beq_eq_false_iff_ne.mpr c25
                have c25b1 : (t227 != 0) = true := bne_iff_ne.mpr c25
                (first | rw [c25b0] | (simp only [i64_w, i32_w]; rw [c25b0]) | skip)
                have H' := Aside0.mk H
                clear H
                go_wp2
                go_meet
                case rel => exact ⟨_, (true), (by first | rfl | (simp; done) | (simp [*]; done)), H', ⟨by have := HJ9.out; first | omega | exact Nat.le_refl _⟩, ⟨by repeat (first | (with_reducible first | exact HB.out | apply below_alloc | apply pw_below_drewN | apply below_drew1) | exact HB.out)⟩⟩
            case rest =>
              clear HC23
              try clear c1
              try clear c2
              try clear p2
              try clear c3
              try clear c5
              try clear c14
              try clear c17
              try clear c17b0
              try clear c17b1
              try clear c18
              try clear c18b0
              try clear c18b1
              try clear c19
              try clear c19b0
              try clear c19b1
              try clear c20
              try clear c21
              try clear c21b0
              try clear c21b1
              try clear c25
              try clear c25b0
              try clear c25b1
              try clear p2
              obtain ⟨kq, x75_22, rfl, HA, HJ22, HB⟩ := hcut
              cases kq with
              | zero => exact absurd HA.out (by simp [laws_FnTimes.j1])
              | succ kj22 =>
                have H := HA.out
                clear HA
                simp only [laws_FnTimes.j1] at H
                by_cases c26 : x75_22 = true
                · subst c26
                  have H1 : (some false) = some r := by rw [if_pos rfl] at H; exact H
                  clear H
                  have H := H1
                  clear H1
                  obtain rfl := Option.some.inj H
                  exact absurd hr_.out (by decide)
                · replace c26 := Bool.eq_false_iff.mpr c26
                  subst c26
                  have H1 : (if t218 = 0 then ((impl_ReadTime.f kj22 t217).bind fun bt228 => (if bt228.2 = 0 then (some (bt228.1 == t216)) else (some false))) else (some true)) = some r := by rw [if_neg (show ¬ (false = true) by decide)] at H; exact H
                  clear H
                  have H := H1
                  clear H1
                  by_cases c27 : t218 = 0
                  · rw [if_pos c27] at H
                    have c27b0 : (t218 == 0) = true := beq_iff_eq.mpr c27
                    have c27b1 : (t218 != 0) = false := bne_eq_false_iff_eq.mpr c27
                    clear c27
                    replace H := Option.bind_eq_some_iff.mp H
                    obtain ⟨⟨t228, t229⟩, A280, H⟩ := H
                    replace H : (if t229 = 0 then (some (t228 == t216)) else (some false)) = some r := H
                    have A28 := Aside0.mk A280
                    clear A280
                    by_cases c29 : t229 = 0
                    · rw [if_pos c29] at H
                      have c29b0 : (t229 == 0) = true := beq_iff_eq.mpr c29
                      have c29b1 : (t229 != 0) = false := bne_eq_false_iff_eq.mpr c29
                      clear c29
                      obtain rfl := Option.some.inj H
                      simp only [Option.some.injEq, Prod.mk.injEq] at H
                      obtain ⟨rfl⟩ := H
                      go_wp2_with (first | ((with_reducible refine gate_callee (f := 29) rfl ?_); refine goesL_ (some 80) rfl rfl Try.func29 (by kernel_rfl) rfl #[.string t217] rfl (by (try simp only [List.map_toArray, List.map_cons, List.map_nil]); first | done | rfl | (simp only [List.length_drop, List.length_take]; rfl) | (go_simp; done) | (simp; done) | (simp; rfl)) ?_; (with_reducible refine (impl_ReadTime.calls kj22 t217 t228 t229 _ A28.out).mono ?_); rintro e w30 ⟨rfl, hb⟩; refine ⟨_, rfl, ?_⟩; have n0_ := Aside0.mk (below_step (by repeat (first | (with_reducible first | exact HB.out | apply below_alloc | apply pw_below_drewN | apply below_drew1) | exact HB.out)) hb); clear HB; have HB := n0_; clear n0_; (try clear hb); (try clear hb2); (try clear hk); (try clear hi)))
                      go_ret
                      exact ⟨by first | rfl | (simp [errW_none, errW_some] <;> rfl) | (simp [*, errW_none, errW_some] <;> rfl), by repeat (first | (with_reducible first | exact HB.out | apply below_alloc | apply pw_below_drewN | apply below_drew1) | exact HB.out)⟩
                    · rw [if_neg c29] at H
                      have c29b0 : (t229 == 0) = false := beq_eq_false_iff_ne.mpr c29
                      have c29b1 : (t229 != 0) = true := bne_iff_ne.mpr c29
                      obtain rfl := Option.some.inj H
                      exact absurd hr_.out (by decide)
                  · rw [if_neg c27] at H
                    have c27b0 : (t218 == 0) = false := beq_eq_false_iff_ne.mpr c27
                    have c27b1 : (t218 != 0) = true := bne_iff_ne.mpr c27
                    obtain rfl := Option.some.inj H
                    simp only [Option.some.injEq, Prod.mk.injEq] at H
                    obtain ⟨rfl⟩ := H
                    go_wp2
                    go_ret
                    exact ⟨by first | rfl | (simp [errW_none, errW_some] <;> rfl) | (simp [*, errW_none, errW_some] <;> rfl), by repeat (first | (with_reducible first | exact HB.out | apply below_alloc | apply pw_below_drewN | apply below_drew1) | exact HB.out)⟩
          · rw [if_neg c21] at H
            have c21b0 : (t223 == 0) = false := beq_eq_false_iff_ne.mpr c21
            have c21b1 : (t223 != 0) = true := bne_iff_ne.mpr c21
            by_cases c31 : t218 = 0
            · rw [if_pos c31] at H
              have c31b0 : (t218 == 0) = true := beq_iff_eq.mpr c31
              have c31b1 : (t218 != 0) = false := bne_eq_false_iff_eq.mpr c31
              clear c31
              replace H := Option.bind_eq_some_iff.mp H
              obtain ⟨⟨t230, t231⟩, A320, H⟩ := H
              replace H : (if t231 = 0 then (some (t230 == t216)) else (some false)) = some r := H
              have A32 := Aside0.mk A320
              clear A320
              by_cases c33 : t231 = 0
              · rw [if_pos c33] at H
                have c33b0 : (t231 == 0) = true := beq_iff_eq.mpr c33
                have c33b1 : (t231 != 0) = false := bne_eq_false_iff_eq.mpr c33
                clear c33
                obtain rfl := Option.some.inj H
                simp only [Option.some.injEq, Prod.mk.injEq] at H
                obtain ⟨rfl⟩ := H
                go_wp2_with (first | ((with_reducible refine gate_callee (f := 29) rfl ?_); refine goesL_ (some 80) rfl rfl Try.func29 (by kernel_rfl) rfl #[.string t217] rfl (by (try simp only [List.map_toArray, List.map_cons, List.map_nil]); first | done | rfl | (simp only [List.length_drop, List.length_take]; rfl) | (go_simp; done) | (simp; done) | (simp; rfl)) ?_; (with_reducible refine (impl_ReadTime.calls kj9 t217 t230 t231 _ A32.out).mono ?_); rintro e w34 ⟨rfl, hb⟩; refine ⟨_, rfl, ?_⟩; have n0_ := Aside0.mk (below_step (by repeat (first | (with_reducible first | exact HB.out | apply below_alloc | apply pw_below_drewN | apply below_drew1) | exact HB.out)) hb); clear HB; have HB := n0_; clear n0_; (try clear hb); (try clear hb2); (try clear hk); (try clear hi)))
                go_ret
                exact ⟨by first | rfl | (simp [errW_none, errW_some] <;> rfl) | (simp [*, errW_none, errW_some] <;> rfl), by repeat (first | (with_reducible first | exact HB.out | apply below_alloc | apply pw_below_drewN | apply below_drew1) | exact HB.out)⟩
              · rw [if_neg c33] at H
                have c33b0 : (t231 == 0) = false := beq_eq_false_iff_ne.mpr c33
                have c33b1 : (t231 != 0) = true := bne_iff_ne.mpr c33
                obtain rfl := Option.some.inj H
                exact absurd hr_.out (by decide)
            · rw [if_neg c31] at H
              have c31b0 : (t218 == 0) = false := beq_eq_false_iff_ne.mpr c31
              have c31b1 : (t218 != 0) = true := bne_iff_ne.mpr c31
              obtain rfl := Option.some.inj H
              simp only [Option.some.injEq, Prod.mk.injEq] at H
              obtain ⟨rfl⟩ := H
              go_wp2
              go_ret
              exact ⟨by first | rfl | (simp [errW_none, errW_some] <;> rfl) | (simp [*, errW_none, errW_some] <;> rfl), by repeat (first | (with_reducible first | exact HB.out | apply below_alloc | apply pw_below_drewN | apply below_drew1) | exact HB.out)⟩

/-- THE ONE PURE STATEMENT of laws_FnTimes: yours. -/
def laws_FnTimes.Pure : Prop := ∀ (l0 : List Int), l0.length ≤ maxLen → l0.length * 1 ≤ 140737488351232 → (∀ x ∈ l0, (Lit.int .u8 x).wf = true) → ∃ k, laws_FnTimes.f k l0 = some true
theorem laws_FnTimes.walk (P : laws_FnTimes.Pure) (a0 : Option Addr) (len0 cap0 : Nat) (z0 : List Int) (w : World) (w0 : (a0 = none ∧ len0 = 0 ∧ cap0 = 0 ∧ z0 = []) ∨ ∃ x, a0 = some x ∧ len0 ≤ cap0 ∧ cap0 ≤ maxLen ∧ z0.length = cap0 ∧ (∀ i, i < z0.length → w.cell? (x.add i) = some (.int .u8 (z0.getD i 0))) ∧ ∀ n ∈ z0, (Lit.int .u8 n).wf = true) (y0 : len0 * 1 ≤ 140737488351232) :
    Calls Try.prog 14 #[.slice a0 len0 cap0] w fun e w' => e = .returned (.bool true) ∧ Below w.heap.size w w' := by
  obtain ⟨l0, rfl, hr0, hm0, hw0, hc0⟩ := ReadsInt.ofRowC w0
  obtain ⟨k, h⟩ := P l0 hm0 y0 hw0
  refine (laws_FnTimes.calls k _ _ l0 true w (Kd.C_of_reads (d := (0 : Int)) (h1 := fun _ => rfl) hr0) hc0 h ⟨rfl⟩).mono ?_
  rintro e w' ⟨rfl, hd⟩
  exact ⟨rfl, hd⟩

end Go.Proofs.Ytgcjjpaljfgiaaa.QFnTimes
