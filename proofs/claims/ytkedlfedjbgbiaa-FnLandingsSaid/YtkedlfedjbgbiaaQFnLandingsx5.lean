-- Written by a program of this project's session, after the kit's print (a turned copy of its programs). Lean checks it.
import Derived.Test.YtkedlfedjbgbiaaQFnLandingsx0
import Derived.Test.YtkedlfedjbgbiaaQFnLandingsx1
import Derived.Test.YtkedlfedjbgbiaaQFnLandingsx2
import Derived.Test.YtkedlfedjbgbiaaQFnLandingsx3
import Derived.Test.YtkedlfedjbgbiaaQFnLandingsx4
namespace Go.Proofs.Ytkedlfedjbgbiaa.QFnLandings
open Go.RowKit Go.Proofs.YtkedlfedjbgbiaaW.PrintWords Go.Proofs.YtkedlfedjbgbiaaW.PrintLast Go.Proofs.YtkedlfedjbgbiaaW.PrintMore
attribute [local go_sem] max2_int min2_int max_two min_two max_three min_three max_four min_four   -- for this text's walks alone
set_option linter.unusedVariables false
set_option linter.unusedSimpArgs false

/-! ### laws_FnLandings: function 16 -/
mutual
def laws_FnLandings.j0 : Nat → List Int → Int → Int → Int → Int → Int → Int → Bool → Option (Bool)
  | 0, _, _, _, _, _, _, _, _ => none
  | k + 1, x0, x3, x4, x5, x6, x7, x8, x51 => if x51 = true then (some false) else (if x8 = 0 then ((impl_LandingRange.f k x3 x7 x4 x4).bind fun bt251 => (if bt251.2.2 = 0 then (if bt251.1 = bt251.2.1 then (if bt251.1 < x5 then (laws_FnLandings.j1 k x0 x3 x4 x5 x6 x7 true) else (laws_FnLandings.j1 k x0 x3 x4 x5 x6 x7 (decide (bt251.1 > x6)))) else (laws_FnLandings.j1 k x0 x3 x4 x5 x6 x7 true)) else (laws_FnLandings.j1 k x0 x3 x4 x5 x6 x7 true))) else (some true))
def laws_FnLandings.j1 : Nat → List Int → Int → Int → Int → Int → Int → Bool → Option (Bool)
  | 0, _, _, _, _, _, _, _ => none
  | k + 1, x0, x3, x4, x5, x6, x7, x79 => if x79 = true then (some false) else (if x7 = 0 then (some true) else ((laws_roll.f k x0 403).bind fun bt254 => ((laws_dice_below.f bt254.1 bt254.2.1 bt254.2.2 (wrap64 ((wrap64 (2 * (mx x7 (wrap64 (-x7))))) - 1))).bind fun bt258 => ((impl_LandingRange.f k x3 (wrap64 ((wrap64 (bt258.1 - (mx x7 (wrap64 (-x7))))) + 1)) x4 x4).bind fun bt261 => (if bt261.2.2 = 0 then (if bt261.1 < x5 then (some true) else (some (decide (bt261.1 > x6)))) else (some false))))))
end
def laws_FnLandings.f (k : Nat) (l0 : List Int) : Option (Bool) := (laws_big.f l0).bind fun t242 => (if t242 = true then (some true) else ((spec_DrawSideFor.f k l0).bind fun bt243 => ((impl_SideFor.f k bt243.1 bt243.2.1 bt243.2.2.1 bt243.2.2.2).bind fun bt247 => ((spec_SideFor.f k bt243.1 bt243.2.1 bt243.2.2.1 bt243.2.2.2).bind fun bt249 => (if bt247.2 = bt249.2 then (laws_FnLandings.j0 k l0 bt243.1 bt243.2.1 bt243.2.2.1 bt243.2.2.2 bt247.1 bt247.2 (bt247.1 != bt249.1)) else (laws_FnLandings.j0 k l0 bt243.1 bt243.2.1 bt243.2.2.1 bt243.2.2.2 bt247.1 bt247.2 true))))))
theorem laws_FnLandings.mono_l : ∀ k, (∀ y0 y1 y2 y3 y4 y5 y6 y7, LeO (laws_FnLandings.j0 k y0 y1 y2 y3 y4 y5 y6 y7) (laws_FnLandings.j0 (k + 1) y0 y1 y2 y3 y4 y5 y6 y7)) ∧ (∀ y0 y1 y2 y3 y4 y5 y6, LeO (laws_FnLandings.j1 k y0 y1 y2 y3 y4 y5 y6) (laws_FnLandings.j1 (k + 1) y0 y1 y2 y3 y4 y5 y6))
  | 0 => ⟨fun _ _ _ _ _ _ _ _ r h => by simp [laws_FnLandings.j0] at h, fun _ _ _ _ _ _ _ r h => by simp [laws_FnLandings.j1] at h⟩
  | k + 1 => by
    obtain ⟨ih0, ih1⟩ := laws_FnLandings.mono_l k
    refine ⟨?_, ?_⟩
    · intro y0 y1 y2 y3 y4 y5 y6 y7
      unfold laws_FnLandings.j0
      repeat' first
      | (with_reducible exact ih0 _ _ _ _ _ _ _ _)
      | (with_reducible exact ih1 _ _ _ _ _ _ _)
      | (with_reducible exact impl_LandingRange.mono _ _ _ _ _)
      | (with_reducible exact impl_SideFor.mono _ _ _ _ _)
      | (with_reducible exact laws_roll.mono _ _ _)
      | (with_reducible exact spec_DrawSideFor.mono _ _)
      | (with_reducible exact spec_SideFor.mono _ _ _ _ _)
      | (with_reducible exact LeO.refl _)
      | (with_reducible exact LeO.none _)
      | (with_reducible refine LeO.ite ?_ ?_)
      | (with_reducible refine LeO.bind ?_ (fun _ => ?_))
      | exact ih0 _ _ _ _ _ _ _ _
      | exact ih1 _ _ _ _ _ _ _
      | exact impl_LandingRange.mono _ _ _ _ _
      | exact impl_SideFor.mono _ _ _ _ _
      | exact laws_roll.mono _ _ _
      | exact spec_DrawSideFor.mono _ _
      | exact spec_SideFor.mono _ _ _ _ _
      | exact LeO.none _
      | refine LeO.ite ?_ ?_
      | refine LeO.bind ?_ (fun _ => ?_)
    · intro y0 y1 y2 y3 y4 y5 y6
      unfold laws_FnLandings.j1
      repeat' first
      | (with_reducible exact ih0 _ _ _ _ _ _ _ _)
      | (with_reducible exact ih1 _ _ _ _ _ _ _)
      | (with_reducible exact impl_LandingRange.mono _ _ _ _ _)
      | (with_reducible exact impl_SideFor.mono _ _ _ _ _)
      | (with_reducible exact laws_roll.mono _ _ _)
      | (with_reducible exact spec_DrawSideFor.mono _ _)
      | (with_reducible exact spec_SideFor.mono _ _ _ _ _)
      | (with_reducible exact LeO.refl _)
      | (with_reducible exact LeO.none _)
      | (with_reducible refine LeO.ite ?_ ?_)
      | (with_reducible refine LeO.bind ?_ (fun _ => ?_))
      | exact ih0 _ _ _ _ _ _ _ _
      | exact ih1 _ _ _ _ _ _ _
      | exact impl_LandingRange.mono _ _ _ _ _
      | exact impl_SideFor.mono _ _ _ _ _
      | exact laws_roll.mono _ _ _
      | exact spec_DrawSideFor.mono _ _
      | exact spec_SideFor.mono _ _ _ _ _
      | exact LeO.none _
      | refine LeO.ite ?_ ?_
      | refine LeO.bind ?_ (fun _ => ?_)
theorem laws_FnLandings.mono : ∀ a0 k, LeO (laws_FnLandings.f k a0) (laws_FnLandings.f (k + 1) a0) := by
  intro a0 k
  obtain ⟨ih0, ih1⟩ := laws_FnLandings.mono_l k
  unfold laws_FnLandings.f
  repeat' first
      | (with_reducible exact ih0 _ _ _ _ _ _ _ _)
      | (with_reducible exact ih1 _ _ _ _ _ _ _)
      | (with_reducible exact impl_LandingRange.mono _ _ _ _ _)
      | (with_reducible exact impl_SideFor.mono _ _ _ _ _)
      | (with_reducible exact laws_roll.mono _ _ _)
      | (with_reducible exact spec_DrawSideFor.mono _ _)
      | (with_reducible exact spec_SideFor.mono _ _ _ _ _)
      | (with_reducible exact LeO.refl _)
      | (with_reducible exact LeO.none _)
      | (with_reducible refine LeO.ite ?_ ?_)
      | (with_reducible refine LeO.bind ?_ (fun _ => ?_))
      | exact ih0 _ _ _ _ _ _ _ _
      | exact ih1 _ _ _ _ _ _ _
      | exact impl_LandingRange.mono _ _ _ _ _
      | exact impl_SideFor.mono _ _ _ _ _
      | exact laws_roll.mono _ _ _
      | exact spec_DrawSideFor.mono _ _
      | exact spec_SideFor.mono _ _ _ _ _
      | exact LeO.none _
      | refine LeO.ite ?_ ?_
      | refine LeO.bind ?_ (fun _ => ?_)
set_option maxHeartbeats 8000000 in
set_option maxRecDepth 100000 in
theorem laws_FnLandings.calls (k : Nat) (A0 : Option Addr) (c0 : Nat) (l0 : List Int) (r : Bool) (w : World) (hr0 : Kd.C (Kd.int .u8) w A0 l0.length l0) (hc0 : l0.length ≤ c0) (h : laws_FnLandings.f k l0 = some r) (hr_ : Aside0 (r = true)) :
    Calls Try.prog 16 #[.slice A0 l0.length c0] w fun e w' => e = .returned (.bool r) ∧ Below w.heap.size w w' := by
  have HR0 := Aside0.mk hr0
  have HC0 := Aside0.mk hc0
  clear hr0 hc0
  have HB := Aside0.mk (Below.refl w.heap.size w)
  have H : ((laws_big.f l0).bind fun t242 => (if t242 = true then (some true) else ((spec_DrawSideFor.f k l0).bind fun bt243 => ((impl_SideFor.f k bt243.1 bt243.2.1 bt243.2.2.1 bt243.2.2.2).bind fun bt247 => ((spec_SideFor.f k bt243.1 bt243.2.1 bt243.2.2.1 bt243.2.2.2).bind fun bt249 => (if bt247.2 = bt249.2 then (laws_FnLandings.j0 k l0 bt243.1 bt243.2.1 bt243.2.2.1 bt243.2.2.2 bt247.1 bt247.2 (bt247.1 != bt249.1)) else (laws_FnLandings.j0 k l0 bt243.1 bt243.2.1 bt243.2.2.1 bt243.2.2.2 bt247.1 bt247.2 true))))))) = some r := h
  clear h
  replace H := Option.bind_eq_some_iff.mp H
  obtain ⟨t242, A20, H⟩ := H
  replace H : (if t242 = true then (some true) else ((spec_DrawSideFor.f k l0).bind fun bt243 => ((impl_SideFor.f k bt243.1 bt243.2.1 bt243.2.2.1 bt243.2.2.2).bind fun bt247 => ((spec_SideFor.f k bt243.1 bt243.2.1 bt243.2.2.1 bt243.2.2.2).bind fun bt249 => (if bt247.2 = bt249.2 then (laws_FnLandings.j0 k l0 bt243.1 bt243.2.1 bt243.2.2.1 bt243.2.2.2 bt247.1 bt247.2 (bt247.1 != bt249.1)) else (laws_FnLandings.j0 k l0 bt243.1 bt243.2.1 bt243.2.2.1 bt243.2.2.2 bt247.1 bt247.2 true)))))) = some r := H
  have A2 := Aside0.mk A20
  clear A20
  by_cases c3 : t242 = true
  · subst c3
    have H1 : (some true) = some r := by rw [if_pos rfl] at H; exact H
    clear H
    have H := H1
    clear H1
    obtain rfl := Option.some.inj H
    simp only [Option.some.injEq, Prod.mk.injEq] at H
    obtain ⟨rfl⟩ := H
    go_enter Try.func16, Try.ntmps16
    go_wp2_with (first | ((with_reducible refine gate_callee (f := 36) rfl ?_); refine goesL_ (some 20) rfl rfl Try.func36 (by kernel_rfl) rfl #[.slice A0 l0.length c0] rfl (by (try simp only [List.map_toArray, List.map_cons, List.map_nil]); first | done | rfl | (simp only [List.length_drop, List.length_take]; rfl) | (simp; done) | (simp; rfl)) ?_; (with_reducible refine (laws_big.calls _ _ l0 true _ ?side1 ?side2 A2.out).mono ?_); (case side1 => repeat (first | exact HR0.out | (with_reducible refine Kd.C_alloc ?_ _) | (with_reducible refine Kd.C_drewN ?_ _) | (with_reducible refine Kd.C_drew ?_))); (case side2 => exact HC0.out); rintro e w' ⟨rfl, ⟨nd, rfl⟩⟩; refine ⟨_, rfl, ?_⟩))
    go_ret
    exact ⟨by first | rfl | (simp [errW_none, errW_some] <;> rfl) | (simp [*, errW_none, errW_some] <;> rfl), by repeat (first | (with_reducible first | exact HB.out | apply below_alloc | apply pw_below_drewN | apply below_drew1) | exact HB.out)⟩
  · replace c3 := Bool.eq_false_iff.mpr c3
    subst c3
    have H1 : ((spec_DrawSideFor.f k l0).bind fun bt243 => ((impl_SideFor.f k bt243.1 bt243.2.1 bt243.2.2.1 bt243.2.2.2).bind fun bt247 => ((spec_SideFor.f k bt243.1 bt243.2.1 bt243.2.2.1 bt243.2.2.2).bind fun bt249 => (if bt247.2 = bt249.2 then (laws_FnLandings.j0 k l0 bt243.1 bt243.2.1 bt243.2.2.1 bt243.2.2.2 bt247.1 bt247.2 (bt247.1 != bt249.1)) else (laws_FnLandings.j0 k l0 bt243.1 bt243.2.1 bt243.2.2.1 bt243.2.2.2 bt247.1 bt247.2 true))))) = some r := by rw [if_neg (show ¬ (false = true) by decide)] at H; exact H
    clear H
    have H := H1
    clear H1
    replace H := Option.bind_eq_some_iff.mp H
    obtain ⟨⟨t243, t244, t245, t246⟩, A40, H⟩ := H
    replace H : ((impl_SideFor.f k t243 t244 t245 t246).bind fun bt247 => ((spec_SideFor.f k t243 t244 t245 t246).bind fun bt249 => (if bt247.2 = bt249.2 then (laws_FnLandings.j0 k l0 t243 t244 t245 t246 bt247.1 bt247.2 (bt247.1 != bt249.1)) else (laws_FnLandings.j0 k l0 t243 t244 t245 t246 bt247.1 bt247.2 true)))) = some r := H
    have A4 := Aside0.mk A40
    clear A40
    replace H := Option.bind_eq_some_iff.mp H
    obtain ⟨⟨t247, t248⟩, A50, H⟩ := H
    replace H : ((spec_SideFor.f k t243 t244 t245 t246).bind fun bt249 => (if t248 = bt249.2 then (laws_FnLandings.j0 k l0 t243 t244 t245 t246 t247 t248 (t247 != bt249.1)) else (laws_FnLandings.j0 k l0 t243 t244 t245 t246 t247 t248 true))) = some r := H
    have A5 := Aside0.mk A50
    clear A50
    replace H := Option.bind_eq_some_iff.mp H
    obtain ⟨⟨t249, t250⟩, A60, H⟩ := H
    replace H : (if t248 = t250 then (laws_FnLandings.j0 k l0 t243 t244 t245 t246 t247 t248 (t247 != t249)) else (laws_FnLandings.j0 k l0 t243 t244 t245 t246 t247 t248 true)) = some r := H
    have A6 := Aside0.mk A60
    clear A60
    have HC7 := Aside0.mk H
    clear H
    go_enter Try.func16, Try.ntmps16
    go_upto_region 6 with (first | ((with_reducible refine gate_callee (f := 36) rfl ?_); refine goesL_ (some 20) rfl rfl Try.func36 (by kernel_rfl) rfl #[.slice A0 l0.length c0] rfl (by (try simp only [List.map_toArray, List.map_cons, List.map_nil]); first | done | rfl | (simp only [List.length_drop, List.length_take]; rfl) | (simp; done) | (simp; rfl)) ?_; (with_reducible refine (laws_big.calls _ _ l0 false _ ?side1 ?side2 A2.out).mono ?_); (case side1 => repeat (first | exact HR0.out | (with_reducible refine Kd.C_alloc ?_ _) | (with_reducible refine Kd.C_drewN ?_ _) | (with_reducible refine Kd.C_drew ?_))); (case side2 => exact HC0.out); rintro e w' ⟨rfl, ⟨nd, rfl⟩⟩; refine ⟨_, rfl, ?_⟩) | ((with_reducible refine gate_callee (f := 47) rfl ?_); refine goesL_ (some 23) rfl rfl Try.func47 (by kernel_rfl) rfl #[.slice A0 l0.length c0] rfl (by (try simp only [List.map_toArray, List.map_cons, List.map_nil]); first | done | rfl | (simp only [List.length_drop, List.length_take]; rfl) | (simp; done) | (simp; rfl)) ?_; (with_reducible refine (spec_DrawSideFor.calls k _ _ l0 t243 t244 t245 t246 _ ?side1 ?side2 A4.out).mono ?_); (case side1 => repeat (first | exact HR0.out | (with_reducible refine Kd.C_alloc ?_ _) | (with_reducible refine Kd.C_drewN ?_ _) | (with_reducible refine Kd.C_drew ?_))); (case side2 => exact HC0.out); rintro e w8 ⟨rfl, hb⟩; refine ⟨_, rfl, ?_⟩; have n0_ := Aside0.mk (below_step (by repeat (first | (with_reducible first | exact HB.out | apply below_alloc | apply pw_below_drewN | apply below_drew1) | exact HB.out)) hb); clear HB; have HB := n0_; clear n0_; (try clear hb); (try clear hb2); (try clear hk); (try clear hi)) | ((with_reducible refine gate_callee (f := 41) rfl ?_); refine goesL_ (some 33) rfl rfl Try.func41 (by kernel_rfl) rfl #[.int .i64 t243, .int .i64 t244, .int .i64 t245, .int .i64 t246] rfl (by (try simp only [List.map_toArray, List.map_cons, List.map_nil]); first | done | rfl | (simp only [List.length_drop, List.length_take]; rfl) | (simp; done) | (simp; rfl)) ?_; (with_reducible refine (impl_SideFor.calls k t243 t244 t245 t246 t247 t248 _ A5.out).mono ?_); rintro e w9 ⟨rfl, hb⟩; refine ⟨_, rfl, ?_⟩; have n0_ := Aside0.mk (below_step (by repeat (first | (with_reducible first | exact HB.out | apply below_alloc | apply pw_below_drewN | apply below_drew1) | exact HB.out)) hb); clear HB; have HB := n0_; clear n0_; (try clear hb); (try clear hb2); (try clear hk); (try clear hi)) | ((with_reducible refine gate_callee (f := 40) rfl ?_); refine goesL_ (some 41) rfl rfl Try.func40 (by kernel_rfl) rfl #[.int .i64 t243, .int .i64 t244, .int .i64 t245, .int .i64 t246] rfl (by (try simp only [List.map_toArray, List.map_cons, List.map_nil]); first | done | rfl | (simp only [List.length_drop, List.length_take]; rfl) | (simp; done) | (simp; rfl)) ?_; (with_reducible refine (spec_SideFor.calls k t243 t244 t245 t246 t249 t250 _ A6.out).mono ?_); rintro e w10 ⟨rfl, hb⟩; refine ⟨_, rfl, ?_⟩; have n0_ := Aside0.mk (below_step (by repeat (first | (with_reducible first | exact HB.out | apply below_alloc | apply pw_below_drewN | apply below_drew1) | exact HB.out)) hb); clear HB; have HB := n0_; clear n0_; (try clear hb); (try clear hb2); (try clear hk); (try clear hi)))
    (try simp only [Act.put, List.setIfInBounds_toArray, List.set_cons_zero, List.set_cons_succ])
    go_cut [51] (fun v51 wc => ∃ (kq : Nat) (x51_6 : Bool), v51 = .bool x51_6 ∧ Aside0 (laws_FnLandings.j0 kq l0 t243 t244 t245 t246 t247 t248 x51_6 = some r) ∧ Aside0 (kq ≤ k) ∧ Aside0 (Below w.heap.size w wc))
    case first =>
      have H := HC7.out
      clear HC7
      by_cases c11 : t248 = t250
      · rw [if_pos c11] at H
        have c11b0 : (t248 == t250) = true := beq_iff_eq.mpr c11
        have c11b1 : (t248 != t250) = false := bne_eq_false_iff_eq.mpr c11
        clear c11
        (first | rw [c11b0] | (simp only [i64_w, i32_w]; rw [c11b0]) | skip)
        have H' := Aside0.mk H
        clear H
        go_wp2
        go_meet
        case rel => exact ⟨_, ((t247 != t249)), (by first | rfl | (simp; done) | (simp [*]; done)), H', ⟨by first | omega | exact Nat.le_refl _⟩, ⟨by repeat (first | (with_reducible first | exact HB.out | apply below_alloc | apply pw_below_drewN | apply below_drew1) | exact HB.out)⟩⟩
      · rw [if_neg c11] at H
        have c11b0 : (t248 == t250) = false := beq_eq_false_iff_ne.mpr c11
        have c11b1 : (t248 != t250) = true := bne_iff_ne.mpr c11
        (first | rw [c11b0] | (simp only [i64_w, i32_w]; rw [c11b0]) | skip)
        have H' := Aside0.mk H
        clear H
        go_wp2
        go_meet
        case rel => exact ⟨_, (true), (by first | rfl | (simp; done) | (simp [*]; done)), H', ⟨by first | omega | exact Nat.le_refl _⟩, ⟨by repeat (first | (with_reducible first | exact HB.out | apply below_alloc | apply pw_below_drewN | apply below_drew1) | exact HB.out)⟩⟩
    case rest =>
      clear HC7
      try clear c1
      try clear p2
      try clear c3
      try clear c4
      try clear c11
      try clear c11b0
      try clear c11b1
      obtain ⟨kq, x51_6, rfl, HA, HJ6, HB⟩ := hcut
      cases kq with
      | zero => exact absurd HA.out (by simp [laws_FnLandings.j0])
      | succ kj6 =>
        have H := HA.out
        clear HA
        simp only [laws_FnLandings.j0] at H
        by_cases c12 : x51_6 = true
        · subst c12
          have H1 : (some false) = some r := by rw [if_pos rfl] at H; exact H
          clear H
          have H := H1
          clear H1
          obtain rfl := Option.some.inj H
          exact absurd hr_.out (by decide)
        · replace c12 := Bool.eq_false_iff.mpr c12
          subst c12
          have H1 : (if t248 = 0 then ((impl_LandingRange.f kj6 t243 t247 t244 t244).bind fun bt251 => (if bt251.2.2 = 0 then (if bt251.1 = bt251.2.1 then (if bt251.1 < t245 then (laws_FnLandings.j1 kj6 l0 t243 t244 t245 t246 t247 true) else (laws_FnLandings.j1 kj6 l0 t243 t244 t245 t246 t247 (decide (bt251.1 > t246)))) else (laws_FnLandings.j1 kj6 l0 t243 t244 t245 t246 t247 true)) else (laws_FnLandings.j1 kj6 l0 t243 t244 t245 t246 t247 true))) else (some true)) = some r := by rw [if_neg (show ¬ (false = true) by decide)] at H; exact H
          clear H
          have H := H1
          clear H1
          by_cases c13 : t248 = 0
          · rw [if_pos c13] at H
            have c13b0 : (t248 == 0) = true := beq_iff_eq.mpr c13
            have c13b1 : (t248 != 0) = false := bne_eq_false_iff_eq.mpr c13
            clear c13
            replace H := Option.bind_eq_some_iff.mp H
            obtain ⟨⟨t251, t252, t253⟩, A140, H⟩ := H
            replace H : (if t253 = 0 then (if t251 = t252 then (if t251 < t245 then (laws_FnLandings.j1 kj6 l0 t243 t244 t245 t246 t247 true) else (laws_FnLandings.j1 kj6 l0 t243 t244 t245 t246 t247 (decide (t251 > t246)))) else (laws_FnLandings.j1 kj6 l0 t243 t244 t245 t246 t247 true)) else (laws_FnLandings.j1 kj6 l0 t243 t244 t245 t246 t247 true)) = some r := H
            have A14 := Aside0.mk A140
            clear A140
            have HC15 := Aside0.mk H
            clear H
            go_upto_region 11 with (first | ((with_reducible refine gate_callee (f := 33) rfl ?_); refine goesL_ (some 59) rfl rfl Try.func33 (by kernel_rfl) rfl #[.int .i64 t243, .int .i64 t247, .int .i64 t244, .int .i64 t244] rfl (by (try simp only [List.map_toArray, List.map_cons, List.map_nil]); first | done | rfl | (simp only [List.length_drop, List.length_take]; rfl) | (simp; done) | (simp; rfl)) ?_; (with_reducible refine (impl_LandingRange.calls kj6 t243 t247 t244 t244 t251 t252 t253 _ A14.out).mono ?_); rintro e w' ⟨rfl, ⟨nd, rfl⟩⟩; refine ⟨_, rfl, ?_⟩))
            (try simp only [Act.put, List.setIfInBounds_toArray, List.set_cons_zero, List.set_cons_succ])
            go_cut [79] (fun v79 wc => ∃ (kq : Nat) (x79_14 : Bool), v79 = .bool x79_14 ∧ Aside0 (laws_FnLandings.j1 kq l0 t243 t244 t245 t246 t247 x79_14 = some r) ∧ Aside0 (kq ≤ kj6) ∧ Aside0 (Below w.heap.size w wc))
            case first =>
              have H := HC15.out
              clear HC15
              by_cases c16 : t253 = 0
              · rw [if_pos c16] at H
                have c16b0 : (t253 == 0) = true := beq_iff_eq.mpr c16
                have c16b1 : (t253 != 0) = false := bne_eq_false_iff_eq.mpr c16
                clear c16
                (first | rw [c16b0] | (simp only [i64_w, i32_w]; rw [c16b0]) | skip)
                by_cases c17 : t251 = t252
                · rw [if_pos c17] at H
                  have c17b0 : (t251 == t252) = true := beq_iff_eq.mpr c17
                  have c17b1 : (t251 != t252) = false := bne_eq_false_iff_eq.mpr c17
                  clear c17
                  by_cases c18 : t251 < t245
                  · rw [if_pos c18] at H
                    have c18b0 : decide (t251 < t245) = true := decide_eq_true c18
                    clear c18
                    have H' := Aside0.mk H
                    clear H
                    go_wp2
                    go_meet
                    case rel => exact ⟨_, (true), (by first | rfl | (simp; done) | (simp [*]; done)), H', ⟨by have := HJ6.out; first | omega | exact Nat.le_refl _⟩, ⟨by repeat (first | (with_reducible first | exact HB.out | apply below_alloc | apply pw_below_drewN | apply below_drew1) | exact HB.out)⟩⟩
                  · rw [if_neg c18] at H
                    have c18b0 : decide (t251 < t245) = false := decide_eq_false c18
                    clear c18
                    have H' := Aside0.mk H
                    clear H
                    go_wp2
                    go_meet
                    case rel => exact ⟨_, (decide (t251 > t246)), (by first | rfl | (simp; done) | (simp [*]; done)), H', ⟨by have := HJ6.out; first | omega | exact Nat.le_refl _⟩, ⟨by repeat (first | (with_reducible first | exact HB.out | apply below_alloc | apply pw_below_drewN | apply below_drew1) | exact HB.out)⟩⟩
                · rw [if_neg c17] at H
                  have c17b0 : (t251 == t252) = false := beq_eq_false_iff_ne.mpr c17
                  have c17b1 : (t251 != t252) = true := bne_iff_ne.mpr c17
                  have H' := Aside0.mk H
                  clear H
                  go_wp2
                  go_meet
                  case rel => exact ⟨_, (true), (by first | rfl | (simp; done) | (simp [*]; done)), H', ⟨by have := HJ6.out; first | omega | exact Nat.le_refl _⟩, ⟨by repeat (first | (with_reducible first | exact HB.out | apply below_alloc | apply pw_below_drewN | apply below_drew1) | exact HB.out)⟩⟩
              · rw [if_neg c16] at H
                have c16b0 : (t253 == 0) = false := beq_eq_false_iff_ne.mpr c16
                have c16b1 : (t253 != 0) = true := bne_iff_ne.mpr c16
                (first | rw [c16b0] | (simp only [i64_w, i32_w]; rw [c16b0]) | skip)
                have H' := Aside0.mk H
                clear H
                go_wp2
                go_meet
                case rel => exact ⟨_, (true), (by first | rfl | (simp; done) | (simp [*]; done)), H', ⟨by have := HJ6.out; first | omega | exact Nat.le_refl _⟩, ⟨by repeat (first | (with_reducible first | exact HB.out | apply below_alloc | apply pw_below_drewN | apply below_drew1) | exact HB.out)⟩⟩
            case rest =>
              clear HC15
              try clear c1
              try clear p2
              try clear c3
              try clear c4
              try clear c11
              try clear c11b0
              try clear c11b1
              try clear c12
              try clear c13
              try clear c13b0
              try clear c13b1
              try clear c16
              try clear c16b0
              try clear c16b1
              try clear c17
              try clear c17b0
              try clear c17b1
              try clear c18
              try clear c18b0
              try clear p2
              obtain ⟨kq, x79_14, rfl, HA, HJ14, HB⟩ := hcut
              cases kq with
              | zero => exact absurd HA.out (by simp [laws_FnLandings.j1])
              | succ kj14 =>
                have H := HA.out
                clear HA
                simp only [laws_FnLandings.j1] at H
                by_cases c19 : x79_14 = true
                · subst c19
                  have H1 : (some false) = some r := by rw [if_pos rfl] at H; exact H
                  clear H
                  have H := H1
                  clear H1
                  obtain rfl := Option.some.inj H
                  exact absurd hr_.out (by decide)
                · replace c19 := Bool.eq_false_iff.mpr c19
                  subst c19
                  have H1 : (if t247 = 0 then (some true) else ((laws_roll.f kj14 l0 403).bind fun bt254 => ((laws_dice_below.f bt254.1 bt254.2.1 bt254.2.2 (wrap64 ((wrap64 (2 * (mx t247 (wrap64 (-t247))))) - 1))).bind fun bt258 => ((impl_LandingRange.f kj14 t243 (wrap64 ((wrap64 (bt258.1 - (mx t247 (wrap64 (-t247))))) + 1)) t244 t244).bind fun bt261 => (if bt261.2.2 = 0 then (if bt261.1 < t245 then (some true) else (some (decide (bt261.1 > t246)))) else (some false)))))) = some r := by rw [if_neg (show ¬ (false = true) by decide)] at H; exact H
                  clear H
                  have H := H1
                  clear H1
                  by_cases c20 : t247 = 0
                  · rw [if_pos c20] at H
                    have c20b0 : (t247 == 0) = true := beq_iff_eq.mpr c20
                    have c20b1 : (t247 != 0) = false := bne_eq_false_iff_eq.mpr c20
                    clear c20
                    obtain rfl := Option.some.inj H
                    simp only [Option.some.injEq, Prod.mk.injEq] at H
                    obtain ⟨rfl⟩ := H
                    go_wp2
                    go_ret
                    exact ⟨by first | rfl | (simp [errW_none, errW_some] <;> rfl) | (simp [*, errW_none, errW_some] <;> rfl), by repeat (first | (with_reducible first | exact HB.out | apply below_alloc | apply pw_below_drewN | apply below_drew1) | exact HB.out)⟩
                  · rw [if_neg c20] at H
                    have c20b0 : (t247 == 0) = false := beq_eq_false_iff_ne.mpr c20
                    have c20b1 : (t247 != 0) = true := bne_iff_ne.mpr c20
                    obtain ⟨ji21, hji21⟩ : ∃ j_ : Int, (mx t247 (wrap64 (-t247))) = j_ := ⟨_, rfl⟩
                    replace H : ((laws_roll.f kj14 l0 403).bind fun bt254 => ((laws_dice_below.f bt254.1 bt254.2.1 bt254.2.2 (wrap64 ((wrap64 (2 * (ji21))) - 1))).bind fun bt258 => ((impl_LandingRange.f kj14 t243 (wrap64 ((wrap64 (bt258.1 - (ji21))) + 1)) t244 t244).bind fun bt261 => (if bt261.2.2 = 0 then (if bt261.1 < t245 then (some true) else (some (decide (bt261.1 > t246)))) else (some false))))) = some r := by first | (rw [hji21] at H; exact H) | (simp only [hji21] at H ⊢; exact H)
                    have hji21_ : (if t247 < (wrap64 (-t247)) then (wrap64 (-t247)) else t247) = ji21 := hji21
                    replace H := Option.bind_eq_some_iff.mp H
                    obtain ⟨⟨t254, t255, t256⟩, A220, H⟩ := H
                    replace H : ((laws_dice_below.f t254 t255 t256 (wrap64 ((wrap64 (2 * (ji21))) - 1))).bind fun bt258 => ((impl_LandingRange.f kj14 t243 (wrap64 ((wrap64 (bt258.1 - (ji21))) + 1)) t244 t244).bind fun bt261 => (if bt261.2.2 = 0 then (if bt261.1 < t245 then (some true) else (some (decide (bt261.1 > t246)))) else (some false)))) = some r := H
                    have A22 := Aside0.mk A220
                    clear A220
                    replace H := Option.bind_eq_some_iff.mp H
                    obtain ⟨⟨t258, t259, t260⟩, A230, H⟩ := H
                    replace H : ((impl_LandingRange.f kj14 t243 (wrap64 ((wrap64 (t258 - (ji21))) + 1)) t244 t244).bind fun bt261 => (if bt261.2.2 = 0 then (if bt261.1 < t245 then (some true) else (some (decide (bt261.1 > t246)))) else (some false))) = some r := H
                    have A23 := Aside0.mk A230
                    clear A230
                    replace H := Option.bind_eq_some_iff.mp H
                    obtain ⟨⟨t261, t262, t263⟩, A240, H⟩ := H
                    replace H : (if t263 = 0 then (if t261 < t245 then (some true) else (some (decide (t261 > t246)))) else (some false)) = some r := H
                    have A24 := Aside0.mk A240
                    clear A240
                    by_cases c25 : t263 = 0
                    · rw [if_pos c25] at H
                      have c25b0 : (t263 == 0) = true := beq_iff_eq.mpr c25
                      have c25b1 : (t263 != 0) = false := bne_eq_false_iff_eq.mpr c25
                      clear c25
                      by_cases c26 : t261 < t245
                      · rw [if_pos c26] at H
                        have c26b0 : decide (t261 < t245) = true := decide_eq_true c26
                        clear c26
                        obtain rfl := Option.some.inj H
                        simp only [Option.some.injEq, Prod.mk.injEq] at H
                        obtain ⟨rfl⟩ := H
                        go_wp2_with (first | ((with_reducible refine gate_callee (f := 38) rfl ?_); refine goesL_ (some 87) rfl rfl Try.func38 (by kernel_rfl) rfl #[.slice A0 l0.length c0, .int .u64 403] rfl (by (try simp only [List.map_toArray, List.map_cons, List.map_nil]); first | done | rfl | (simp only [List.length_drop, List.length_take]; rfl) | (simp; done) | (simp; rfl)) ?_; (with_reducible refine (laws_roll.calls kj14 _ _ l0 403 t254 t255 t256 w _ ?side1 ?side2 ?side3 A22.out).mono ?_); (case side1 => repeat (first | (with_reducible first | exact HB.out | apply below_alloc | apply pw_below_drewN | apply below_drew1) | exact HB.out)); (case side2 => exact HR0.out); (case side3 => exact HC0.out); rintro e w27 ⟨g257, rfl, hi, hb, hb2⟩; refine ⟨_, rfl, ?_⟩; have n0_ := Aside0.mk (hb); have n1_ := Aside0.mk (hi); clear HB; have HB := n0_; have HI257 := n1_; clear n0_ n1_; (try clear hb); (try clear hb2); (try clear hk); (try clear hi)) | ((with_reducible refine gate_callee (f := 39) rfl ?_); refine goesL_ (some 91) rfl rfl Try.func39 (by kernel_rfl) rfl #[.pointer (some ⟨g257, 0, none⟩), .int .i64 (wrap64 ((wrap64 (2 * (ji21))) - 1))] rfl (by (try simp only [List.map_toArray, List.map_cons, List.map_nil]); first | done | (simp only [hji21]; rfl) | rfl | (simp only [List.length_drop, List.length_take]; rfl) | (simp; done) | (simp; rfl)) ?_; (with_reducible refine (laws_dice_below.calls g257 t254 t255 t256 (wrap64 ((wrap64 (2 * (ji21))) - 1)) t258 t259 t260 w _ ?side1 ?side2 A23.out).mono ?_); (case side1 => repeat (first | (with_reducible first | exact HI257.out | apply IsS64.alloc | apply IsS64.drewN | apply IsS64.drew | apply IsS64.set_1 | apply IsS64.set_2) | exact HI257.out)); (case side2 => repeat (first | (with_reducible first | exact HB.out | apply below_alloc | apply pw_below_drewN | apply below_drew1 | refine below_set ?_ (IsS64.ge HI257.out)) | exact HB.out)); rintro e w28 ⟨rfl, hi, hb, hk⟩; refine ⟨_, rfl, ?_⟩; have n0_ := Aside0.mk (hb); have n1_ := Aside0.mk (hi); clear HB; clear HI257; have HB := n0_; have HI257 := n1_; clear n0_ n1_; (try clear hb); (try clear hb2); (try clear hk); (try clear hi)) | ((with_reducible refine gate_callee (f := 33) rfl ?_); refine goesL_ (some 100) rfl rfl Try.func33 (by kernel_rfl) rfl #[.int .i64 t243, .int .i64 (wrap64 ((wrap64 (t258 - (ji21))) + 1)), .int .i64 t244, .int .i64 t244] rfl (by (try simp only [List.map_toArray, List.map_cons, List.map_nil]); first | done | (simp only [hji21]; rfl) | rfl | (simp only [List.length_drop, List.length_take]; rfl) | (simp; done) | (simp; rfl)) ?_; (with_reducible refine (impl_LandingRange.calls kj14 t243 (wrap64 ((wrap64 (t258 - (ji21))) + 1)) t244 t244 t261 t262 t263 _ A24.out).mono ?_); rintro e w' ⟨rfl, ⟨nd, rfl⟩⟩; refine ⟨_, rfl, ?_⟩))
                        go_ret
                        exact ⟨by first | rfl | (simp [errW_none, errW_some] <;> rfl) | (simp only [← hji21]; first | rfl | (simp [errW_none, errW_some] <;> rfl)) | (simp [*, errW_none, errW_some] <;> rfl), by repeat (first | (with_reducible first | exact HB.out | apply below_alloc | apply pw_below_drewN | apply below_drew1 | refine below_set ?_ (IsS64.ge HI257.out)) | exact HB.out)⟩
                      · rw [if_neg c26] at H
                        have c26b0 : decide (t261 < t245) = false := decide_eq_false c26
                        clear c26
                        obtain rfl := Option.some.inj H
                        simp only [Option.some.injEq, Prod.mk.injEq] at H
                        obtain ⟨rfl⟩ := H
                        go_wp2_with (first | ((with_reducible refine gate_callee (f := 38) rfl ?_); refine goesL_ (some 87) rfl rfl Try.func38 (by kernel_rfl) rfl #[.slice A0 l0.length c0, .int .u64 403] rfl (by (try simp only [List.map_toArray, List.map_cons, List.map_nil]); first | done | rfl | (simp only [List.length_drop, List.length_take]; rfl) | (simp; done) | (simp; rfl)) ?_; (with_reducible refine (laws_roll.calls kj14 _ _ l0 403 t254 t255 t256 w _ ?side1 ?side2 ?side3 A22.out).mono ?_); (case side1 => repeat (first | (with_reducible first | exact HB.out | apply below_alloc | apply pw_below_drewN | apply below_drew1) | exact HB.out)); (case side2 => exact HR0.out); (case side3 => exact HC0.out); rintro e w29 ⟨g257, rfl, hi, hb, hb2⟩; refine ⟨_, rfl, ?_⟩; have n0_ := Aside0.mk (hb); have n1_ := Aside0.mk (hi); clear HB; have HB := n0_; have HI257 := n1_; clear n0_ n1_; (try clear hb); (try clear hb2); (try clear hk); (try clear hi)) | ((with_reducible refine gate_callee (f := 39) rfl ?_); refine goesL_ (some 91) rfl rfl Try.func39 (by kernel_rfl) rfl #[.pointer (some ⟨g257, 0, none⟩), .int .i64 (wrap64 ((wrap64 (2 * (ji21))) - 1))] rfl (by (try simp only [List.map_toArray, List.map_cons, List.map_nil]); first | done | (simp only [hji21]; rfl) | rfl | (simp only [List.length_drop, List.length_take]; rfl) | (simp; done) | (simp; rfl)) ?_; (with_reducible refine (laws_dice_below.calls g257 t254 t255 t256 (wrap64 ((wrap64 (2 * (ji21))) - 1)) t258 t259 t260 w _ ?side1 ?side2 A23.out).mono ?_); (case side1 => repeat (first | (with_reducible first | exact HI257.out | apply IsS64.alloc | apply IsS64.drewN | apply IsS64.drew | apply IsS64.set_1 | apply IsS64.set_2) | exact HI257.out)); (case side2 => repeat (first | (with_reducible first | exact HB.out | apply below_alloc | apply pw_below_drewN | apply below_drew1 | refine below_set ?_ (IsS64.ge HI257.out)) | exact HB.out)); rintro e w30 ⟨rfl, hi, hb, hk⟩; refine ⟨_, rfl, ?_⟩; have n0_ := Aside0.mk (hb); have n1_ := Aside0.mk (hi); clear HB; clear HI257; have HB := n0_; have HI257 := n1_; clear n0_ n1_; (try clear hb); (try clear hb2); (try clear hk); (try clear hi)) | ((with_reducible refine gate_callee (f := 33) rfl ?_); refine goesL_ (some 100) rfl rfl Try.func33 (by kernel_rfl) rfl #[.int .i64 t243, .int .i64 (wrap64 ((wrap64 (t258 - (ji21))) + 1)), .int .i64 t244, .int .i64 t244] rfl (by (try simp only [List.map_toArray, List.map_cons, List.map_nil]); first | done | (simp only [hji21]; rfl) | rfl | (simp only [List.length_drop, List.length_take]; rfl) | (simp; done) | (simp; rfl)) ?_; (with_reducible refine (impl_LandingRange.calls kj14 t243 (wrap64 ((wrap64 (t258 - (ji21))) + 1)) t244 t244 t261 t262 t263 _ A24.out).mono ?_); rintro e w' ⟨rfl, ⟨nd, rfl⟩⟩; refine ⟨_, rfl, ?_⟩))
                        go_ret
                        exact ⟨by first | rfl | (simp [errW_none, errW_some] <;> rfl) | (simp only [← hji21]; first | rfl | (simp [errW_none, errW_some] <;> rfl)) | (simp [*, errW_none, errW_some] <;> rfl), by repeat (first | (with_reducible first | exact HB.out | apply below_alloc | apply pw_below_drewN | apply below_drew1 | refine below_set ?_ (IsS64.ge HI257.out)) | exact HB.out)⟩
                    · rw [if_neg c25] at H
                      have c25b0 : (t263 == 0) = false := beq_eq_false_iff_ne.mpr c25
                      have c25b1 : (t263 != 0) = true := bne_iff_ne.mpr c25
                      obtain rfl := Option.some.inj H
                      exact absurd hr_.out (by decide)
          · rw [if_neg c13] at H
            have c13b0 : (t248 == 0) = false := beq_eq_false_iff_ne.mpr c13
            have c13b1 : (t248 != 0) = true := bne_iff_ne.mpr c13
            obtain rfl := Option.some.inj H
            simp only [Option.some.injEq, Prod.mk.injEq] at H
            obtain ⟨rfl⟩ := H
            go_wp2
            go_ret
            exact ⟨by first | rfl | (simp [errW_none, errW_some] <;> rfl) | (simp [*, errW_none, errW_some] <;> rfl), by repeat (first | (with_reducible first | exact HB.out | apply below_alloc | apply pw_below_drewN | apply below_drew1) | exact HB.out)⟩

/-- THE ONE PURE STATEMENT of laws_FnLandings: yours. -/
def laws_FnLandings.Pure : Prop := ∀ (l0 : List Int), l0.length ≤ maxLen → l0.length * 1 ≤ 140737488351232 → (∀ x ∈ l0, (Lit.int .u8 x).wf = true) → ∃ k, laws_FnLandings.f k l0 = some true
theorem laws_FnLandings.walk (P : laws_FnLandings.Pure) (a0 : Option Addr) (len0 cap0 : Nat) (z0 : List Int) (w : World) (w0 : (a0 = none ∧ len0 = 0 ∧ cap0 = 0 ∧ z0 = []) ∨ ∃ x, a0 = some x ∧ len0 ≤ cap0 ∧ cap0 ≤ maxLen ∧ z0.length = cap0 ∧ (∀ i, i < z0.length → w.cell? (x.add i) = some (.int .u8 (z0.getD i 0))) ∧ ∀ n ∈ z0, (Lit.int .u8 n).wf = true) (y0 : len0 * 1 ≤ 140737488351232) :
    Calls Try.prog 16 #[.slice a0 len0 cap0] w fun e w' => e = .returned (.bool true) ∧ Below w.heap.size w w' := by
  obtain ⟨l0, rfl, hr0, hm0, hw0, hc0⟩ := ReadsInt.ofRowC w0
  obtain ⟨k, h⟩ := P l0 hm0 y0 hw0
  refine (laws_FnLandings.calls k _ _ l0 true w (Kd.C_of_reads (d := (0 : Int)) (h1 := fun _ => rfl) hr0) hc0 h ⟨rfl⟩).mono ?_
  rintro e w' ⟨rfl, hd⟩
  exact ⟨rfl, hd⟩

end Go.Proofs.Ytkedlfedjbgbiaa.QFnLandings
