-- Written by a program of this project's session, after the kit's print (a turned copy of its programs). Lean checks it.
import Derived.Test.YtidibjmckgbpbaaQFnExactWidenWindx0
import Derived.Test.YtidibjmckgbpbaaQFnExactWidenWindx3
import Derived.Test.YtidibjmckgbpbaaQFnExactWidenWindx4
namespace Go.Proofs.Ytidibjmckgbpbaa.QFnExactWidenWind
open Go.RowKit Go.Proofs.YtidibjmckgbpbaaW.PrintWords Go.Proofs.YtidibjmckgbpbaaW.PrintLast Go.Proofs.YtidibjmckgbpbaaW.PrintMore
attribute [local go_sem] max2_int min2_int max_two min_two max_three min_three max_four min_four   -- for this text's walks alone
set_option linter.unusedVariables false
set_option linter.unusedSimpArgs false

/-! ### spec_l05Find: function 54 -/
def spec_l05Find.l0 : Nat → List (S55) → Int → Int → Option (Int)
  | 0, _, _, _ => none
  | k + 1, x0, x1, x5 => if x5 < (x0.length : Int) then (if 0 ≤ x5 then (if ((rd_T55 x0 x5).f0) ≥ x1 then (some x5) else (spec_l05Find.l0 k x0 x1 (wrap64 (x5 + 1)))) else (none)) else (some (-1))
def spec_l05Find.f (k : Nat) (l0 : List (S55)) (a1 : Int) : Option (Int) := spec_l05Find.l0 k l0 a1 0
theorem spec_l05Find.mono_l : ∀ k, (∀ y0 y1 y2, LeO (spec_l05Find.l0 k y0 y1 y2) (spec_l05Find.l0 (k + 1) y0 y1 y2))
  | 0 => fun _ _ _ r h => by simp [spec_l05Find.l0] at h
  | k + 1 => by
    have ih0 := spec_l05Find.mono_l k
    · intro y0 y1 y2
      unfold spec_l05Find.l0
      repeat' first
      | (with_reducible exact ih0 _ _ _)
      | (with_reducible exact LeO.refl _)
      | (with_reducible exact LeO.none _)
      | (with_reducible refine LeO.ite ?_ ?_)
      | (with_reducible refine LeO.bind ?_ (fun _ => ?_))
      | exact ih0 _ _ _
      | exact LeO.none _
      | refine LeO.ite ?_ ?_
      | refine LeO.bind ?_ (fun _ => ?_)
theorem spec_l05Find.mono : ∀ a0 a1 k, LeO (spec_l05Find.f k a0 a1) (spec_l05Find.f (k + 1) a0 a1) := by
  intro a0 a1 k
  have ih0 := spec_l05Find.mono_l k
  unfold spec_l05Find.f
  repeat' first
      | (with_reducible exact ih0 _ _ _)
      | (with_reducible exact LeO.refl _)
      | (with_reducible exact LeO.none _)
      | (with_reducible refine LeO.ite ?_ ?_)
      | (with_reducible refine LeO.bind ?_ (fun _ => ?_))
      | exact ih0 _ _ _
      | exact LeO.none _
      | refine LeO.ite ?_ ?_
      | refine LeO.bind ?_ (fun _ => ?_)
set_option maxHeartbeats 8000000 in
set_option maxRecDepth 100000 in
theorem spec_l05Find.calls (k : Nat) (A0 : Option Addr) (c0 : Nat) (l0 : List (S55)) (a1 : Int) (r : Int) (w : World) (hr0 : Kd.C k55 w A0 l0.length l0) (hc0 : l0.length ≤ c0) (h : spec_l05Find.f k l0 a1 = some r) :
    Calls Try.prog 54 #[.slice A0 l0.length c0, .int .i64 a1] w fun e w' => e = .returned (.int .i64 r) ∧ Drawn0 w w' := by
  have HR0 := Aside0.mk hr0
  have HC0 := Aside0.mk hc0
  clear hr0 hc0
  have H : (spec_l05Find.l0 k l0 a1 0) = some r := h
  clear h
  have H' := Aside0.mk H
  clear H
  go_enter Try.func54, Try.ntmps54
  go_wp2
  go_loopg [5] k (fun kq v5 w' => ∃ (x5_1 : Int), v5 = .int .i64 x5_1 ∧ Aside0 (spec_l05Find.l0 kq l0 a1 x5_1 = some r) ∧ Aside0 (kq ≤ k) ∧ Drawn0 w w')
  case atStart => exact ⟨(0), (by first | rfl | (simp; done) | (simp [*]; done)), H', ⟨Nat.le_refl _⟩, by repeat (first | exact Drawn0.refl _ | apply Drawn0.step)⟩
  case round =>
    clear H'
    try clear p2
    obtain ⟨x5_1, rfl, HA, HK1, ⟨m1, rfl⟩⟩ := hrel
    cases gk with
    | zero => exact absurd HA.out (by simp [spec_l05Find.l0])
    | succ k1 =>
      have H := HA.out
      clear HA
      simp only [spec_l05Find.l0] at H
      by_cases c3 : x5_1 < (l0.length : Int)
      · rw [if_pos c3] at H
        have c3b0 : decide (x5_1 < (l0.length : Int)) = true := decide_eq_true c3
        clear c3
        by_cases c4 : 0 ≤ x5_1
        · rw [if_pos c4] at H
          have c4b0 : decide (0 ≤ x5_1) = true := decide_eq_true c4
          clear c4
          by_cases c5 : ((rd_T55 l0 x5_1).f0) ≥ a1
          · rw [if_pos c5] at H
            have c5b0 : decide (a1 ≤ ((rd_T55 l0 x5_1).f0)) = true := decide_eq_true c5
            clear c5
            obtain rfl := Option.some.inj H
            simp only [Option.some.injEq, Prod.mk.injEq] at H
            obtain ⟨rfl⟩ := H
            have p149 : 0 ≤ (x5_1 : Int) := of_decide_eq_true (by first | (with_reducible assumption) | assumption)
            have q149 : x5_1 < (l0.length : Int) := of_decide_eq_true (by first | (with_reducible assumption) | assumption)
            obtain ⟨ad149, e149, hx149_0, hx149_1, hx149_2⟩ := at_T55 HR0.out x5_1 p149 q149
            cases e149
            replace p149 := eq_true p149
            replace q149 := eq_true q149
            go_wp2
            go_ret
            exact ⟨by first | rfl | (simp; done) | (simp [*]; done), by repeat (first | exact Drawn0.refl _ | apply Drawn0.step)⟩
          · rw [if_neg c5] at H
            have c5b0 : decide (a1 ≤ ((rd_T55 l0 x5_1).f0)) = false := decide_eq_false c5
            clear c5
            have H' := Aside0.mk H
            clear H
            have p149 : 0 ≤ (x5_1 : Int) := of_decide_eq_true (by first | (with_reducible assumption) | assumption)
            have q149 : x5_1 < (l0.length : Int) := of_decide_eq_true (by first | (with_reducible assumption) | assumption)
            obtain ⟨ad149, e149, hx149_0, hx149_1, hx149_2⟩ := at_T55 HR0.out x5_1 p149 q149
            cases e149
            replace p149 := eq_true p149
            replace q149 := eq_true q149
            go_wp2
            go_roundg k1
            case measure => have := HK1.out; omega
            case rel => exact ⟨(wrap64 (x5_1 + 1)), (by first | rfl | (simp; done) | (simp [*]; done)), H', ⟨by have := HK1.out; omega⟩, by repeat (first | exact Drawn0.refl _ | apply Drawn0.step)⟩
        · rw [if_neg c4] at H
          exact absurd H (by simp)
      · rw [if_neg c3] at H
        have c3b0 : decide (x5_1 < (l0.length : Int)) = false := decide_eq_false c3
        clear c3
        obtain rfl := Option.some.inj H
        simp only [Option.some.injEq, Prod.mk.injEq] at H
        obtain ⟨rfl⟩ := H
        go_wp2
        go_ret
        exact ⟨by first | rfl | (simp; done) | (simp [*]; done), by repeat (first | exact Drawn0.refl _ | apply Drawn0.step)⟩

/-! ### spec_l05Code: function 53 -/
def spec_l05Code.f (k : Nat) (l0 : List (S55)) (a1 : Int) : Option (Int) := (spec_IsProfile.f k l0).bind fun t150 => (if t150 = true then ((spec_l01In.f a1 0 1000000).bind fun t151 => (if t151 = true then ((spec_l05Find.f k l0 a1).bind fun t152 => (if t152 < 0 then (some 4) else (some 0))) else (some 2))) else (some 1))
theorem spec_l05Code.mono : ∀ a0 a1 k, LeO (spec_l05Code.f k a0 a1) (spec_l05Code.f (k + 1) a0 a1) := by
  intro a0 a1 k
  unfold spec_l05Code.f
  repeat' first
      | (with_reducible exact spec_IsProfile.mono _ _)
      | (with_reducible exact spec_l05Find.mono _ _ _)
      | (with_reducible exact LeO.refl _)
      | (with_reducible exact LeO.none _)
      | (with_reducible refine LeO.ite ?_ ?_)
      | (with_reducible refine LeO.bind ?_ (fun _ => ?_))
      | exact spec_IsProfile.mono _ _
      | exact spec_l05Find.mono _ _ _
      | exact LeO.none _
      | refine LeO.ite ?_ ?_
      | refine LeO.bind ?_ (fun _ => ?_)
set_option maxHeartbeats 8000000 in
set_option maxRecDepth 100000 in
theorem spec_l05Code.calls (k : Nat) (A0 : Option Addr) (c0 : Nat) (l0 : List (S55)) (a1 : Int) (r : Int) (w : World) (hr0 : Kd.C k55 w A0 l0.length l0) (hc0 : l0.length ≤ c0) (h : spec_l05Code.f k l0 a1 = some r) :
    Calls Try.prog 53 #[.slice A0 l0.length c0, .int .i64 a1] w fun e w' => e = .returned (.int .i64 r) ∧ Below w.heap.size w w' := by
  have HR0 := Aside0.mk hr0
  have HC0 := Aside0.mk hc0
  clear hr0 hc0
  have HB := Aside0.mk (Below.refl w.heap.size w)
  have H : ((spec_IsProfile.f k l0).bind fun t150 => (if t150 = true then ((spec_l01In.f a1 0 1000000).bind fun t151 => (if t151 = true then ((spec_l05Find.f k l0 a1).bind fun t152 => (if t152 < 0 then (some 4) else (some 0))) else (some 2))) else (some 1))) = some r := h
  clear h
  replace H := Option.bind_eq_some_iff.mp H
  obtain ⟨t150, A30, H⟩ := H
  replace H : (if t150 = true then ((spec_l01In.f a1 0 1000000).bind fun t151 => (if t151 = true then ((spec_l05Find.f k l0 a1).bind fun t152 => (if t152 < 0 then (some 4) else (some 0))) else (some 2))) else (some 1)) = some r := H
  have A3 := Aside0.mk A30
  clear A30
  by_cases c4 : t150 = true
  · subst c4
    have H1 : ((spec_l01In.f a1 0 1000000).bind fun t151 => (if t151 = true then ((spec_l05Find.f k l0 a1).bind fun t152 => (if t152 < 0 then (some 4) else (some 0))) else (some 2))) = some r := by rw [if_pos rfl] at H; exact H
    clear H
    have H := H1
    clear H1
    replace H := Option.bind_eq_some_iff.mp H
    obtain ⟨t151, A50, H⟩ := H
    replace H : (if t151 = true then ((spec_l05Find.f k l0 a1).bind fun t152 => (if t152 < 0 then (some 4) else (some 0))) else (some 2)) = some r := H
    have A5 := Aside0.mk A50
    clear A50
    by_cases c6 : t151 = true
    · subst c6
      have H1 : ((spec_l05Find.f k l0 a1).bind fun t152 => (if t152 < 0 then (some 4) else (some 0))) = some r := by rw [if_pos rfl] at H; exact H
      clear H
      have H := H1
      clear H1
      replace H := Option.bind_eq_some_iff.mp H
      obtain ⟨t152, A70, H⟩ := H
      replace H : (if t152 < 0 then (some 4) else (some 0)) = some r := H
      have A7 := Aside0.mk A70
      clear A70
      by_cases c8 : t152 < 0
      · rw [if_pos c8] at H
        have c8b0 : decide (t152 < 0) = true := decide_eq_true c8
        clear c8
        obtain rfl := Option.some.inj H
        simp only [Option.some.injEq, Prod.mk.injEq] at H
        obtain ⟨rfl⟩ := H
        go_enter Try.func53, Try.ntmps53
        go_wp2_with (first | ((with_reducible refine gate_callee (f := 15) rfl ?_); refine goesL_ (some 7) rfl rfl Try.func15 (by kernel_rfl) rfl #[.slice A0 l0.length c0] rfl (by (try simp only [List.map_toArray, List.map_cons, List.map_nil]); first | done | rfl | (simp only [List.length_drop, List.length_take]; rfl) | (go_simp; done) | (simp; done) | (simp; rfl)) ?_; (with_reducible refine (spec_IsProfile.calls k _ _ l0 true _ ?side1 ?side2 A3.out).mono ?_); (case side1 => repeat (first | exact HR0.out | (with_reducible refine Kd.C_alloc ?_ _) | (with_reducible refine Kd.C_drewN ?_ _) | (with_reducible refine Kd.C_drew ?_))); (case side2 => exact HC0.out); rintro e w9 ⟨rfl, hb⟩; refine ⟨_, rfl, ?_⟩; have n0_ := Aside0.mk (below_step (by repeat (first | (with_reducible first | exact HB.out | apply below_alloc | apply pw_below_drewN | apply below_drew1) | exact HB.out)) hb); clear HB; have HB := n0_; clear n0_; (try clear hb); (try clear hb2); (try clear hk); (try clear hi)) | ((with_reducible refine gate_callee (f := 47) rfl ?_); refine goesL_ (some 11) rfl rfl Try.func47 (by kernel_rfl) rfl #[.int .i64 a1, .int .i64 0, .int .i64 1000000] rfl (by (try simp only [List.map_toArray, List.map_cons, List.map_nil]); first | done | rfl | (simp only [List.length_drop, List.length_take]; rfl) | (go_simp; done) | (simp; done) | (simp; rfl)) ?_; (with_reducible refine (spec_l01In.calls a1 0 1000000 true _ A5.out).mono ?_); rintro e w' ⟨rfl, ⟨nd, rfl⟩⟩; refine ⟨_, rfl, ?_⟩) | ((with_reducible refine gate_callee (f := 54) rfl ?_); refine goesL_ (some 16) rfl rfl Try.func54 (by kernel_rfl) rfl #[.slice A0 l0.length c0, .int .i64 a1] rfl (by (try simp only [List.map_toArray, List.map_cons, List.map_nil]); first | done | rfl | (simp only [List.length_drop, List.length_take]; rfl) | (go_simp; done) | (simp; done) | (simp; rfl)) ?_; (with_reducible refine (spec_l05Find.calls k _ _ l0 a1 t152 _ ?side1 ?side2 A7.out).mono ?_); (case side1 => repeat (first | exact (Kd.C_below HR0.out (by repeat (first | (with_reducible first | exact HB.out | apply below_alloc | apply pw_below_drewN | apply below_drew1) | exact HB.out))) | (with_reducible refine Kd.C_alloc ?_ _) | (with_reducible refine Kd.C_drewN ?_ _) | (with_reducible refine Kd.C_drew ?_))); (case side2 => exact HC0.out); rintro e w' ⟨rfl, ⟨nd, rfl⟩⟩; refine ⟨_, rfl, ?_⟩))
        go_ret
        exact ⟨by first | rfl | (simp [errW_none, errW_some] <;> rfl) | (simp [*, errW_none, errW_some] <;> rfl), by repeat (first | (with_reducible first | exact HB.out | apply below_alloc | apply pw_below_drewN | apply below_drew1) | exact HB.out)⟩
      · rw [if_neg c8] at H
        have c8b0 : decide (t152 < 0) = false := decide_eq_false c8
        clear c8
        obtain rfl := Option.some.inj H
        simp only [Option.some.injEq, Prod.mk.injEq] at H
        obtain ⟨rfl⟩ := H
        go_enter Try.func53, Try.ntmps53
        go_wp2_with (first | ((with_reducible refine gate_callee (f := 15) rfl ?_); refine goesL_ (some 7) rfl rfl Try.func15 (by kernel_rfl) rfl #[.slice A0 l0.length c0] rfl (by (try simp only [List.map_toArray, List.map_cons, List.map_nil]); first | done | rfl | (simp only [List.length_drop, List.length_take]; rfl) | (go_simp; done) | (simp; done) | (simp; rfl)) ?_; (with_reducible refine (spec_IsProfile.calls k _ _ l0 true _ ?side1 ?side2 A3.out).mono ?_); (case side1 => repeat (first | exact HR0.out | (with_reducible refine Kd.C_alloc ?_ _) | (with_reducible refine Kd.C_drewN ?_ _) | (with_reducible refine Kd.C_drew ?_))); (case side2 => exact HC0.out); rintro e w10 ⟨rfl, hb⟩; refine ⟨_, rfl, ?_⟩; have n0_ := Aside0.mk (below_step (by repeat (first | (with_reducible first | exact HB.out | apply below_alloc | apply pw_below_drewN | apply below_drew1) | exact HB.out)) hb); clear HB; have HB := n0_; clear n0_; (try clear hb); (try clear hb2); (try clear hk); (try clear hi)) | ((with_reducible refine gate_callee (f := 47) rfl ?_); refine goesL_ (some 11) rfl rfl Try.func47 (by kernel_rfl) rfl #[.int .i64 a1, .int .i64 0, .int .i64 1000000] rfl (by (try simp only [List.map_toArray, List.map_cons, List.map_nil]); first | done | rfl | (simp only [List.length_drop, List.length_take]; rfl) | (go_simp; done) | (simp; done) | (simp; rfl)) ?_; (with_reducible refine (spec_l01In.calls a1 0 1000000 true _ A5.out).mono ?_); rintro e w' ⟨rfl, ⟨nd, rfl⟩⟩; refine ⟨_, rfl, ?_⟩) | ((with_reducible refine gate_callee (f := 54) rfl ?_); refine goesL_ (some 16) rfl rfl Try.func54 (by kernel_rfl) rfl #[.slice A0 l0.length c0, .int .i64 a1] rfl (by (try simp only [List.map_toArray, List.map_cons, List.map_nil]); first | done | rfl | (simp only [List.length_drop, List.length_take]; rfl) | (go_simp; done) | (simp; done) | (simp; rfl)) ?_; (with_reducible refine (spec_l05Find.calls k _ _ l0 a1 t152 _ ?side1 ?side2 A7.out).mono ?_); (case side1 => repeat (first | exact (Kd.C_below HR0.out (by repeat (first | (with_reducible first | exact HB.out | apply below_alloc | apply pw_below_drewN | apply below_drew1) | exact HB.out))) | (with_reducible refine Kd.C_alloc ?_ _) | (with_reducible refine Kd.C_drewN ?_ _) | (with_reducible refine Kd.C_drew ?_))); (case side2 => exact HC0.out); rintro e w' ⟨rfl, ⟨nd, rfl⟩⟩; refine ⟨_, rfl, ?_⟩))
        go_ret
        exact ⟨by first | rfl | (simp [errW_none, errW_some] <;> rfl) | (simp [*, errW_none, errW_some] <;> rfl), by repeat (first | (with_reducible first | exact HB.out | apply below_alloc | apply pw_below_drewN | apply below_drew1) | exact HB.out)⟩
    · replace c6 := Bool.eq_false_iff.mpr c6
      subst c6
      have H1 : (some 2) = some r := by rw [if_neg (show ¬ (false = true) by decide)] at H; exact H
      clear H
      have H := H1
      clear H1
      obtain rfl := Option.some.inj H
      simp only [Option.some.injEq, Prod.mk.injEq] at H
      obtain ⟨rfl⟩ := H
      go_enter Try.func53, Try.ntmps53
      go_wp2_with (first | ((with_reducible refine gate_callee (f := 15) rfl ?_); refine goesL_ (some 7) rfl rfl Try.func15 (by kernel_rfl) rfl #[.slice A0 l0.length c0] rfl (by (try simp only [List.map_toArray, List.map_cons, List.map_nil]); first | done | rfl | (simp only [List.length_drop, List.length_take]; rfl) | (go_simp; done) | (simp; done) | (simp; rfl)) ?_; (with_reducible refine (spec_IsProfile.calls k _ _ l0 true _ ?side1 ?side2 A3.out).mono ?_); (case side1 => repeat (first | exact HR0.out | (with_reducible refine Kd.C_alloc ?_ _) | (with_reducible refine Kd.C_drewN ?_ _) | (with_reducible refine Kd.C_drew ?_))); (case side2 => exact HC0.out); rintro e w11 ⟨rfl, hb⟩; refine ⟨_, rfl, ?_⟩; have n0_ := Aside0.mk (below_step (by repeat (first | (with_reducible first | exact HB.out | apply below_alloc | apply pw_below_drewN | apply below_drew1) | exact HB.out)) hb); clear HB; have HB := n0_; clear n0_; (try clear hb); (try clear hb2); (try clear hk); (try clear hi)) | ((with_reducible refine gate_callee (f := 47) rfl ?_); refine goesL_ (some 11) rfl rfl Try.func47 (by kernel_rfl) rfl #[.int .i64 a1, .int .i64 0, .int .i64 1000000] rfl (by (try simp only [List.map_toArray, List.map_cons, List.map_nil]); first | done | rfl | (simp only [List.length_drop, List.length_take]; rfl) | (go_simp; done) | (simp; done) | (simp; rfl)) ?_; (with_reducible refine (spec_l01In.calls a1 0 1000000 false _ A5.out).mono ?_); rintro e w' ⟨rfl, ⟨nd, rfl⟩⟩; refine ⟨_, rfl, ?_⟩))
      go_ret
      exact ⟨by first | rfl | (simp [errW_none, errW_some] <;> rfl) | (simp [*, errW_none, errW_some] <;> rfl), by repeat (first | (with_reducible first | exact HB.out | apply below_alloc | apply pw_below_drewN | apply below_drew1) | exact HB.out)⟩
  · replace c4 := Bool.eq_false_iff.mpr c4
    subst c4
    have H1 : (some 1) = some r := by rw [if_neg (show ¬ (false = true) by decide)] at H; exact H
    clear H
    have H := H1
    clear H1
    obtain rfl := Option.some.inj H
    simp only [Option.some.injEq, Prod.mk.injEq] at H
    obtain ⟨rfl⟩ := H
    go_enter Try.func53, Try.ntmps53
    go_wp2_with (first | ((with_reducible refine gate_callee (f := 15) rfl ?_); refine goesL_ (some 7) rfl rfl Try.func15 (by kernel_rfl) rfl #[.slice A0 l0.length c0] rfl (by (try simp only [List.map_toArray, List.map_cons, List.map_nil]); first | done | rfl | (simp only [List.length_drop, List.length_take]; rfl) | (go_simp; done) | (simp; done) | (simp; rfl)) ?_; (with_reducible refine (spec_IsProfile.calls k _ _ l0 false _ ?side1 ?side2 A3.out).mono ?_); (case side1 => repeat (first | exact HR0.out | (with_reducible refine Kd.C_alloc ?_ _) | (with_reducible refine Kd.C_drewN ?_ _) | (with_reducible refine Kd.C_drew ?_))); (case side2 => exact HC0.out); rintro e w12 ⟨rfl, hb⟩; refine ⟨_, rfl, ?_⟩; have n0_ := Aside0.mk (below_step (by repeat (first | (with_reducible first | exact HB.out | apply below_alloc | apply pw_below_drewN | apply below_drew1) | exact HB.out)) hb); clear HB; have HB := n0_; clear n0_; (try clear hb); (try clear hb2); (try clear hk); (try clear hi)))
    go_ret
    exact ⟨by first | rfl | (simp [errW_none, errW_some] <;> rfl) | (simp [*, errW_none, errW_some] <;> rfl), by repeat (first | (with_reducible first | exact HB.out | apply below_alloc | apply pw_below_drewN | apply below_drew1) | exact HB.out)⟩

/-! ### spec_WidenWind: function 36 -/
def spec_WidenWind.j0 : Nat → List (S55) → Int → Int → Option ((List (S55)) × Int)
  | 0, _, _, _ => none
  | k + 1, x0, x1, x2 => (spec_l05Code.f k x0 x1).bind fun t154 => (if t154 = 0 then ((some (([] : List (S55)) : List (S55))).bind fun y155 => (if y155.length + x0.length < 5864062014805 then ((some (y155 ++ x0 : List (S55))).bind fun y158 => ((spec_l05Find.f k x0 x1).bind fun t161 => (if 0 ≤ t161 then (if t161 < (y158.length : Int) then ((some (y158.set (t161 : Int).toNat (⟨(rd_T55 y158 t161).f0, mn ((rd_T55 y158 t161).f1) x2, (rd_T55 y158 t161).f2⟩ : S55) : List (S55))).bind fun y163 => (some ((y163.set (t161 : Int).toNat (⟨(rd_T55 y163 t161).f0, (rd_T55 y163 t161).f1, mx ((rd_T55 y163 t161).f2) x2⟩ : S55)), 0))) else (none)) else (none)))) else (none))) else (some (([] : List (S55)), t154)))
def spec_WidenWind.f (k : Nat) (l0 : List (S55)) (a1 : Int) (a2 : Int) : Option ((List (S55)) × Int) := (spec_l01In.f a2 (-50000) 50000).bind fun t153 => (if t153 = true then (spec_WidenWind.j0 k l0 a1 a2) else (spec_WidenWind.j0 k l0 (-1) a2))
theorem spec_WidenWind.mono_l : ∀ k, (∀ y0 y1 y2, LeO (spec_WidenWind.j0 k y0 y1 y2) (spec_WidenWind.j0 (k + 1) y0 y1 y2))
  | 0 => fun _ _ _ r h => by simp [spec_WidenWind.j0] at h
  | k + 1 => by
    have ih0 := spec_WidenWind.mono_l k
    · intro y0 y1 y2
      unfold spec_WidenWind.j0
      repeat' first
      | (with_reducible exact ih0 _ _ _)
      | (with_reducible exact spec_l05Code.mono _ _ _)
      | (with_reducible exact spec_l05Find.mono _ _ _)
      | (with_reducible exact LeO.refl _)
      | (with_reducible exact LeO.none _)
      | (with_reducible refine LeO.ite ?_ ?_)
      | (with_reducible refine LeO.bind ?_ (fun _ => ?_))
      | exact ih0 _ _ _
      | exact spec_l05Code.mono _ _ _
      | exact spec_l05Find.mono _ _ _
      | exact LeO.none _
      | refine LeO.ite ?_ ?_
      | refine LeO.bind ?_ (fun _ => ?_)
theorem spec_WidenWind.mono : ∀ a0 a1 a2 k, LeO (spec_WidenWind.f k a0 a1 a2) (spec_WidenWind.f (k + 1) a0 a1 a2) := by
  intro a0 a1 a2 k
  have ih0 := spec_WidenWind.mono_l k
  unfold spec_WidenWind.f
  repeat' first
      | (with_reducible exact ih0 _ _ _)
      | (with_reducible exact spec_l05Code.mono _ _ _)
      | (with_reducible exact spec_l05Find.mono _ _ _)
      | (with_reducible exact LeO.refl _)
      | (with_reducible exact LeO.none _)
      | (with_reducible refine LeO.ite ?_ ?_)
      | (with_reducible refine LeO.bind ?_ (fun _ => ?_))
      | exact ih0 _ _ _
      | exact spec_l05Code.mono _ _ _
      | exact spec_l05Find.mono _ _ _
      | exact LeO.none _
      | refine LeO.ite ?_ ?_
      | refine LeO.bind ?_ (fun _ => ?_)
set_option maxHeartbeats 8000000 in
set_option maxRecDepth 100000 in
theorem spec_WidenWind.calls (k : Nat) (A0 : Option Addr) (c0 : Nat) (l0 : List (S55)) (a1 : Int) (a2 : Int) (r1 : List (S55)) (r2 : Int) (w : World) (hr0 : Kd.C k55 w A0 l0.length l0) (hc0 : l0.length ≤ c0) (h : spec_WidenWind.f k l0 a1 a2 = some (r1, r2)) :
    Calls Try.prog 36 #[.slice A0 l0.length c0, .int .i64 a1, .int .i64 a2] w fun e w' => ∃ v0_ : Value, e = .returned (.tuple #[v0_, .int .i64 r2]) ∧ Kd.R k55 55 w' w.heap.size (fun _ => True) v0_ r1 ∧ Below w.heap.size w w' := by
  have HR0 := Aside0.mk hr0
  have HC0 := Aside0.mk hc0
  clear hr0 hc0
  have HB := Aside0.mk (Below.refl w.heap.size w)
  have H : ((spec_l01In.f a2 (-50000) 50000).bind fun t153 => (if t153 = true then (spec_WidenWind.j0 k l0 a1 a2) else (spec_WidenWind.j0 k l0 (-1) a2))) = some (r1, r2) := h
  clear h
  replace H := Option.bind_eq_some_iff.mp H
  obtain ⟨t153, A40, H⟩ := H
  replace H : (if t153 = true then (spec_WidenWind.j0 k l0 a1 a2) else (spec_WidenWind.j0 k l0 (-1) a2)) = some (r1, r2) := H
  have A4 := Aside0.mk A40
  clear A40
  have HC5 := Aside0.mk H
  clear H
  go_enter Try.func36, Try.ntmps36
  go_upto_if 13 with (first | ((with_reducible refine gate_callee (f := 47) rfl ?_); refine goesL_ (some 12) rfl rfl Try.func47 (by kernel_rfl) rfl #[.int .i64 a2, .int .i64 (-50000), .int .i64 50000] rfl (by (try simp only [List.map_toArray, List.map_cons, List.map_nil]); first | done | rfl | (simp only [List.length_drop, List.length_take]; rfl) | (go_simp; done) | (simp; done) | (simp; rfl)) ?_; (with_reducible refine (spec_l01In.calls a2 (-50000) 50000 t153 _ A4.out).mono ?_); rintro e w' ⟨rfl, ⟨nd, rfl⟩⟩; refine ⟨_, rfl, ?_⟩))
  (try simp only [Act.put, List.setIfInBounds_toArray, List.set_cons_zero, List.set_cons_succ])
  go_cut [1] (fun v1 wc => ∃ (kq : Nat) (x1_4 : Int), v1 = .int .i64 x1_4 ∧ Aside0 (spec_WidenWind.j0 kq l0 x1_4 a2 = some (r1, r2)) ∧ Aside0 (kq ≤ k) ∧ Aside0 (Below w.heap.size w wc))
  case first =>
    have H := HC5.out
    clear HC5
    by_cases c6 : t153 = true
    · subst c6
      have H1 : (spec_WidenWind.j0 k l0 a1 a2) = some (r1, r2) := by rw [if_pos rfl] at H; exact H
      clear H
      have H := H1
      clear H1
      have H' := Aside0.mk H
      clear H
      go_wp2
      go_meet
      case rel => exact ⟨_, (a1), (by first | rfl | (simp; done) | (simp [*]; done)), H', ⟨by first | omega | exact Nat.le_refl _⟩, ⟨by repeat (first | (with_reducible first | exact HB.out | apply below_alloc | apply pw_below_drewN | apply below_drew1) | exact HB.out)⟩⟩
    · replace c6 := Bool.eq_false_iff.mpr c6
      subst c6
      have H1 : (spec_WidenWind.j0 k l0 (-1) a2) = some (r1, r2) := by rw [if_neg (show ¬ (false = true) by decide)] at H; exact H
      clear H
      have H := H1
      clear H1
      have H' := Aside0.mk H
      clear H
      go_wp2
      go_meet
      case rel => exact ⟨_, ((-1)), (by first | rfl | (simp; done) | (simp [*]; done)), H', ⟨by first | omega | exact Nat.le_refl _⟩, ⟨by repeat (first | (with_reducible first | exact HB.out | apply below_alloc | apply pw_below_drewN | apply below_drew1) | exact HB.out)⟩⟩
  case rest =>
    clear HC5
    try clear p2
    try clear c3
    try clear c4
    try clear c6
    obtain ⟨kq, x1_4, rfl, HA, HJ4, HB⟩ := hcut
    cases kq with
    | zero => exact absurd HA.out (by simp [spec_WidenWind.j0])
    | succ kj4 =>
      have H := HA.out
      clear HA
      simp only [spec_WidenWind.j0] at H
      replace H := Option.bind_eq_some_iff.mp H
      obtain ⟨t154, A70, H⟩ := H
      replace H : (if t154 = 0 then ((some (([] : List (S55)) : List (S55))).bind fun y155 => (if y155.length + l0.length < 5864062014805 then ((some (y155 ++ l0 : List (S55))).bind fun y158 => ((spec_l05Find.f kj4 l0 x1_4).bind fun t161 => (if 0 ≤ t161 then (if t161 < (y158.length : Int) then ((some (y158.set (t161 : Int).toNat (⟨(rd_T55 y158 t161).f0, mn ((rd_T55 y158 t161).f1) a2, (rd_T55 y158 t161).f2⟩ : S55) : List (S55))).bind fun y163 => (some ((y163.set (t161 : Int).toNat (⟨(rd_T55 y163 t161).f0, (rd_T55 y163 t161).f1, mx ((rd_T55 y163 t161).f2) a2⟩ : S55)), 0))) else (none)) else (none)))) else (none))) else (some (([] : List (S55)), t154))) = some (r1, r2) := H
      have A7 := Aside0.mk A70
      clear A70
      by_cases c8 : t154 = 0
      · rw [if_pos c8] at H
        have c8b0 : (t154 == 0) = true := beq_iff_eq.mpr c8
        have c8b1 : (t154 != 0) = false := bne_eq_false_iff_eq.mpr c8
        clear c8
        obtain ⟨y155, hy155⟩ : ∃ y_ : List (S55), y_ = (([] : List (S55))) := ⟨_, rfl⟩
        replace H : (if y155.length + l0.length < 5864062014805 then ((some (y155 ++ l0 : List (S55))).bind fun y158 => ((spec_l05Find.f kj4 l0 x1_4).bind fun t161 => (if 0 ≤ t161 then (if t161 < (y158.length : Int) then ((some (y158.set (t161 : Int).toNat (⟨(rd_T55 y158 t161).f0, mn ((rd_T55 y158 t161).f1) a2, (rd_T55 y158 t161).f2⟩ : S55) : List (S55))).bind fun y163 => (some ((y163.set (t161 : Int).toNat (⟨(rd_T55 y163 t161).f0, (rd_T55 y163 t161).f1, mx ((rd_T55 y163 t161).f2) a2⟩ : S55)), 0))) else (none)) else (none)))) else (none)) = some (r1, r2) := by first | (rw [hy155]; with_reducible exact H) | (have H2_ := (Option.bind_some _ _).symm.trans H; rw [hy155]; with_reducible exact H2_) | (have H2_ := (Option.bind_some _ _).symm.trans H; with_reducible exact H2_) | with_reducible exact H | (rw [hy155]; exact H) | exact H
        have Ny155 := Aside0.mk hy155
        clear hy155
        by_cases c9 : y155.length + l0.length < 5864062014805
        · rw [if_pos c9] at H
          have LMc9 := Aside0.mk c9
          clear c9
          obtain ⟨y158, hy158⟩ : ∃ y_ : List (S55), y_ = (y155 ++ l0) := ⟨_, rfl⟩
          replace H : ((spec_l05Find.f kj4 l0 x1_4).bind fun t161 => (if 0 ≤ t161 then (if t161 < (y158.length : Int) then ((some (y158.set (t161 : Int).toNat (⟨(rd_T55 y158 t161).f0, mn ((rd_T55 y158 t161).f1) a2, (rd_T55 y158 t161).f2⟩ : S55) : List (S55))).bind fun y163 => (some ((y163.set (t161 : Int).toNat (⟨(rd_T55 y163 t161).f0, (rd_T55 y163 t161).f1, mx ((rd_T55 y163 t161).f2) a2⟩ : S55)), 0))) else (none)) else (none))) = some (r1, r2) := by first | (rw [hy158]; with_reducible exact H) | (have H2_ := (Option.bind_some _ _).symm.trans H; rw [hy158]; with_reducible exact H2_) | (have H2_ := (Option.bind_some _ _).symm.trans H; with_reducible exact H2_) | with_reducible exact H | (rw [hy158]; exact H) | exact H
          have Ny158 := Aside0.mk hy158
          clear hy158
          replace H := Option.bind_eq_some_iff.mp H
          obtain ⟨t161, A100, H⟩ := H
          replace H : (if 0 ≤ t161 then (if t161 < (y158.length : Int) then ((some (y158.set (t161 : Int).toNat (⟨(rd_T55 y158 t161).f0, mn ((rd_T55 y158 t161).f1) a2, (rd_T55 y158 t161).f2⟩ : S55) : List (S55))).bind fun y163 => (some ((y163.set (t161 : Int).toNat (⟨(rd_T55 y163 t161).f0, (rd_T55 y163 t161).f1, mx ((rd_T55 y163 t161).f2) a2⟩ : S55)), 0))) else (none)) else (none)) = some (r1, r2) := H
          have A10 := Aside0.mk A100
          clear A100
          by_cases c11 : 0 ≤ t161
          · rw [if_pos c11] at H
            have c11b0 : decide (0 ≤ t161) = true := decide_eq_true c11
            clear c11
            by_cases c12 : t161 < (y158.length : Int)
            · rw [if_pos c12] at H
              have c12b0 : decide (t161 < (y158.length : Int)) = true := decide_eq_true c12
              clear c12
              obtain ⟨ji13, hji13⟩ : ∃ j_ : Int, (mn ((rd_T55 y158 t161).f1) a2) = j_ := ⟨_, rfl⟩
              replace H : ((some (y158.set (t161 : Int).toNat (⟨(rd_T55 y158 t161).f0, ji13, (rd_T55 y158 t161).f2⟩ : S55) : List (S55))).bind fun y163 => (some ((y163.set (t161 : Int).toNat (⟨(rd_T55 y163 t161).f0, (rd_T55 y163 t161).f1, mx ((rd_T55 y163 t161).f2) a2⟩ : S55)), 0))) = some (r1, r2) := by first | (rw [hji13] at H; exact H) | (simp only [hji13] at H ⊢; exact H)
              (try rw [hji13] at A7)
              (try rw [hji13] at A10)
              have hji13_ : (if a2 < ((rd_T55 y158 t161).f1) then a2 else ((rd_T55 y158 t161).f1)) = ji13 := hji13
              obtain ⟨y163, hy163⟩ : ∃ y_ : List (S55), y_ = (y158.set (t161 : Int).toNat (⟨(rd_T55 y158 t161).f0, ji13, (rd_T55 y158 t161).f2⟩ : S55)) := ⟨_, rfl⟩
              replace H : (some ((y163.set (t161 : Int).toNat (⟨(rd_T55 y163 t161).f0, (rd_T55 y163 t161).f1, mx ((rd_T55 y163 t161).f2) a2⟩ : S55)), 0)) = some (r1, r2) := by first | (rw [hy163]; with_reducible exact H) | (have H2_ := (Option.bind_some _ _).symm.trans H; rw [hy163]; with_reducible exact H2_) | (have H2_ := (Option.bind_some _ _).symm.trans H; with_reducible exact H2_) | with_reducible exact H | (rw [hy163]; exact H) | exact H
              have Ny163 := Aside0.mk hy163
              clear hy163
              obtain ⟨ji15, hji15⟩ : ∃ j_ : Int, (mx ((rd_T55 y163 t161).f2) a2) = j_ := ⟨_, rfl⟩
              replace H : (some ((y163.set (t161 : Int).toNat (⟨(rd_T55 y163 t161).f0, (rd_T55 y163 t161).f1, ji15⟩ : S55)), 0)) = some (r1, r2) := by first | (rw [hji15] at H; exact H) | (simp only [hji15] at H ⊢; exact H)
              (try rw [hji15] at A7)
              (try rw [hji15] at A10)
              have hji15_ : (if ((rd_T55 y163 t161).f2) < a2 then a2 else ((rd_T55 y163 t161).f2)) = ji15 := hji15
              obtain ⟨y165, hy165⟩ : ∃ y_ : List (S55), y_ = (y163.set (t161 : Int).toNat (⟨(rd_T55 y163 t161).f0, (rd_T55 y163 t161).f1, ji15⟩ : S55)) := ⟨_, rfl⟩
              replace H : (some (y165, 0)) = some (r1, r2) := by first | (rw [hy165]; with_reducible exact H) | (have H2_ := (Option.bind_some _ _).symm.trans H; rw [hy165]; with_reducible exact H2_) | (have H2_ := (Option.bind_some _ _).symm.trans H; with_reducible exact H2_) | with_reducible exact H | (rw [hy165]; exact H) | exact H
              have Ny165 := Aside0.mk hy165
              clear hy165
              simp only [Option.some.injEq, Prod.mk.injEq] at H
              obtain ⟨rfl, rfl⟩ := H
              go_wp2_with (first | ((with_reducible refine gate_callee (f := 53) rfl ?_); refine goesL_ (some 16) rfl rfl Try.func53 (by kernel_rfl) rfl #[.slice A0 l0.length c0, .int .i64 x1_4] rfl (by (try simp only [List.map_toArray, List.map_cons, List.map_nil]); first | done | rfl | (simp only [List.length_drop, List.length_take]; rfl) | (go_simp; done) | (simp; done) | (simp; rfl)) ?_; (with_reducible refine (spec_l05Code.calls kj4 _ _ l0 x1_4 t154 _ ?side1 ?side2 A7.out).mono ?_); (case side1 => repeat (first | exact (Kd.C_below HR0.out HB.out) | (with_reducible refine Kd.C_alloc ?_ _) | (with_reducible refine Kd.C_drewN ?_ _) | (with_reducible refine Kd.C_drew ?_))); (case side2 => exact HC0.out); rintro e w17 ⟨rfl, hb⟩; refine ⟨_, rfl, ?_⟩; have n0_ := Aside0.mk (below_step (by repeat (first | (with_reducible first | exact HB.out | apply below_alloc | apply pw_below_drewN | apply below_drew1) | exact HB.out)) hb); clear HB; have HB := n0_; clear n0_; (try clear hb); (try clear hb2); (try clear hk); (try clear hi)) | ((with_reducible refine gate_dst (N := 20) rfl ?_); refine Kd.R_lit k55 _ 55 ?hg (N := 20) ?hd (xs := ([] : List (S55))) (inner := []) (ok := fun _ => True) (okp := fun _ => True) ?hr ?hp (fun _ hk => hk) trivial (Below.refl _ _) (Nat.le_refl _) (by simp) ?_; (case hd => rfl); (case hg => rfl); (case hr => first | (go_simp; done) | (go_simp; rfl)); (case hp => exact (Reps.none _ _)); intro v156 w18 ho19 hb hg_ hnew_; clear hg_ hnew_; (first | rw [← Ny155.out] at ho19 | (simp only [Int.reduceToNat] at ho19; rw [← Ny155.out] at ho19)); have n0_ := Aside0.mk (Kd.R_lower ho19 (below_size (by repeat (first | (with_reducible first | exact HB.out | apply below_alloc | apply pw_below_drewN | apply below_drew1) | exact HB.out)))); have n1_ := Aside0.mk (below_step (by repeat (first | (with_reducible first | exact HB.out | apply below_alloc | apply pw_below_drewN | apply below_drew1) | exact HB.out)) hb); clear HB; have HO157 := n0_; have HB := n1_; clear n0_ n1_; clear hb ho19) | ((with_reducible refine gate_builtin (b := .append) (xs := #[.tmp 20, .tmp 21]) rfl ?_); at_builtin; refine Kd.R_append_rows k55 (w0 := w) w.heap.size rfl (.tmp 20) (.tmp 21) 25 55 (.agg #[(.int .i64 0), (.int .i64 0), (.int .i64 0)]) 24 rfl Try.underlying25 info55 rfl (by decide) (by omega) v156 y155 l0 _ _ _ (fun _ => True) (fun _ => False) rfl rfl ?aO ?aR (fun _ _ h => h) (fun _ h => h.elim) ?aF ?aB ?aS ?aL ?_; (case aR => repeat (first | exact (Kd.C_below HR0.out HB.out) | (with_reducible refine Kd.C_alloc ?_ _) | (with_reducible refine Kd.C_drewN ?_ _) | (with_reducible refine Kd.C_drew ?_))); (case aB => exact (by repeat (first | (with_reducible first | exact HB.out | apply below_alloc | apply pw_below_drewN | apply below_drew1) | exact HB.out))); (case aF => exact (fun _ _ => trivial)); (case aO => exact (by (with_reducible repeat (first | apply Kd.R_alloc | apply Kd.R_drewN | apply Kd.R_drew)); exact HO157.out)); (case aS => exact (below_size (by repeat (first | (with_reducible first | exact HB.out | apply below_alloc | apply pw_below_drewN | apply below_drew1) | exact HB.out)))); (case aL => have := LMc9.out; omega); intro v159 w20 ho hb hg hat; rw [← Ny158.out] at ho; have n0_ := Aside0.mk (hb); have n1_ := Aside0.mk (ho); clear HB; clear HO157; have HB := n0_; have HO160 := n1_; clear n0_ n1_; clear ho hb hg hat) | ((with_reducible refine gate_callee (f := 54) rfl ?_); refine goesL_ (some 25) rfl rfl Try.func54 (by kernel_rfl) rfl #[.slice A0 l0.length c0, .int .i64 x1_4] rfl (by (try simp only [List.map_toArray, List.map_cons, List.map_nil]); first | done | rfl | (simp only [List.length_drop, List.length_take]; rfl) | (go_simp; done) | (simp; done) | (simp; rfl)) ?_; (with_reducible refine (spec_l05Find.calls kj4 _ _ l0 x1_4 t161 _ ?side1 ?side2 A10.out).mono ?_); (case side1 => repeat (first | exact (Kd.C_below HR0.out HB.out) | (with_reducible refine Kd.C_alloc ?_ _) | (with_reducible refine Kd.C_drewN ?_ _) | (with_reducible refine Kd.C_drew ?_))); (case side2 => exact HC0.out); rintro e w' ⟨rfl, ⟨nd, rfl⟩⟩; refine ⟨_, rfl, ?_⟩; (try (rw [drewN_self w20]; generalize hq_ : World.drewN w20 _ = w20; have n0_ : Aside0 (Kd.R k55 55 w20 w.heap.size (fun _ => True) v159 y158) := ⟨by rw [← hq_]; exact (by (with_reducible repeat (first | apply Kd.R_alloc | apply Kd.R_drewN | apply Kd.R_drew)); exact HO160.out)⟩; have n1_ : Aside0 (Below w.heap.size w w20) := ⟨by rw [← hq_]; exact (by repeat (first | (with_reducible first | exact HB.out | apply below_alloc | apply pw_below_drewN | apply below_drew1) | exact HB.out))⟩; clear HO160 HB hq_; have HO160 := n0_; have HB := n1_; clear n0_ n1_)); obtain ⟨Ao21, co21, eo21⟩ := Kd.R_slice HO160.out; subst eo21; have p162 : 0 ≤ (t161 : Int) := of_decide_eq_true (by first | (with_reducible assumption) | assumption); have q162 : t161 < (y158.length : Int) := of_decide_eq_true (by first | (with_reducible assumption) | assumption); obtain ⟨ad162, e162, hx162_0, hx162_1, hx162_2⟩ := at_T55 (Kd.R_reads' HO160.out).2.2 t161 p162 q162; cases e162; replace p162 := eq_true p162; replace q162 := eq_true q162; have p14 : 0 ≤ (t161 : Int) := of_decide_eq_true (by first | (with_reducible assumption) | assumption); have q14 : (t161 : Int) < ((y158.length : Int) : Int) := of_decide_eq_true (by first | (with_reducible assumption) | assumption); obtain ⟨go14, co14, eo14, gb14, gl14, cl14, HG14⟩ := Kd.R_form HO160.out (by omega); (first | cases eo14 | (injection eo14 with ea_ en_ ec_; (first | subst ea_ | (injection ea_ with ea_; subst ea_)); subst ec_; clear en_)); have GB14 := Aside0.mk gb14; have GG14 := Aside0.mk HG14; clear gb14 gl14 HG14; (first | simp only [add_plain] at hx162_0 | skip); (first | simp only [add_plain] at hx162_1 | skip); (first | simp only [add_plain] at hx162_2 | skip); obtain ⟨ce14, hcl14, hM14, hcc14, hfr14⟩ := Kd.R_elem HO160.out z55 (t161 : Int) p14 q14; obtain rfl := k55_openM hM14; have hx14_0 : w20.cell? ⟨go14, (t161 : Int).toNat * 3, none⟩ = some (.int .i64 ((rd_T55 y158 t161).f0)) := hcc14 0 _ rfl; have hx14_1 : w20.cell? ⟨go14, (t161 : Int).toNat * 3 + 1, none⟩ = some (.int .i64 ((rd_T55 y158 t161).f1)) := hcc14 1 _ rfl; have hx14_2 : w20.cell? ⟨go14, (t161 : Int).toNat * 3 + 2, none⟩ = some (.int .i64 ((rd_T55 y158 t161).f2)) := hcc14 2 _ rfl; have hf14_0 : w20.frozen? ⟨go14, (t161 : Int).toNat * 3, none⟩ = false := hfr14 0; have hf14_1 : w20.frozen? ⟨go14, (t161 : Int).toNat * 3 + 1, none⟩ = false := hfr14 1; have hf14_2 : w20.frozen? ⟨go14, (t161 : Int).toNat * 3 + 2, none⟩ = false := hfr14 2; clear hcl14 hcc14 hfr14 hM14; replace p14 := eq_true p14; replace q14 := eq_true q14; have HX22 := Aside0.mk (show Kd.R k55 55 w20 w.heap.size (fun _ => True) (.slice (some ⟨go14, 0, none⟩) y158.length co21) y158 from (by (with_reducible repeat (first | apply Kd.R_alloc | apply Kd.R_drewN | apply Kd.R_drew)); exact HO160.out)); obtain ⟨ce22, hcl22, hM22, hcc22, hfr22⟩ := Kd.R_elem HX22.out z55 (t161 : Int) (of_decide_eq_true (by first | (with_reducible assumption) | assumption)) (by have h_ : (t161 : Int) < ((y158.length : Int) : Int) := of_decide_eq_true (by first | (with_reducible assumption) | assumption); first | exact h_ | (have e_ := (Kd.R_reads' HO160.out).1; omega) | simpa using h_); obtain rfl := k55_openM hM22; have HP22 := Kd.R_seg HX22.out (t161 : Int) (of_decide_eq_true (by first | (with_reducible assumption) | assumption)) (by have h_ : (t161 : Int) < ((y158.length : Int) : Int) := of_decide_eq_true (by first | (with_reducible assumption) | assumption); first | exact h_ | (have e_ := (Kd.R_reads' HO160.out).1; omega) | simpa using h_) (seg := [.int .i64 ji13]) (j := 1) hcl22 hcc22 (show 2 ≤ 3 from by decide) (x' := (⟨(rd_T55 y158 t161).f0, ji13, (rd_T55 y158 t161).f2⟩ : S55)) (k55_mkM _ _ _ (⟨(rd_T55 y158 t161).f0, ji13, (rd_T55 y158 t161).f2⟩ : S55) ) (fun _ hk => hk); have hx22_1 := hcc22 1 _ rfl; (try simp only [show (k55).sz = 3 from rfl, Nat.mul_one, Nat.add_zero] at hx22_1); have hf22_1 := hfr22 1; (try simp only [show (k55).sz = 3 from rfl, Nat.mul_one, Nat.add_zero] at hf22_1); clear hcl22 hcc22 hfr22 hM22) | ((with_reducible refine gate_store (t := 2) (p := 36) rfl ?_); refine store_event (t := 2) (p := 36) (v := ?vo_w23) (w1 := (w20.setCell ⟨go14, (t161 : Int).toNat * 3 + 1, none⟩ (.int .i64 ji13))) ?hg ?ho ?hn ?hr ?_; (case ho => rfl); (case hg => rfl); (case hn => rfl); (case hr => first | (go_simp; done) | (go_simp; rfl)); intro w23 hw; have hg : w20.grownBy w23 (some go14) := (by rw [hw]; exact HP22.2); have hp_ : Kd.R k55 55 w23 w.heap.size (fun _ => True) (.slice (some ⟨go14, 0, none⟩) y158.length co21) y163 := (by rw [hw, Ny163.out]; exact HP22.1); clear HP22; have n0_ := Aside0.mk (hp_); have n1_ := Aside0.mk ((by rw [hw]; exact below_set (HB.out) GB14.out : Below w.heap.size w w23)); clear HO160; clear HB; have HO160 := n0_; have HB := n1_; clear n0_ n1_; clear hg hw hp_; have p164 : 0 ≤ (t161 : Int) := of_decide_eq_true (by first | (with_reducible assumption) | assumption); have q164 : t161 < (y163.length : Int) := (by have h_ : (t161 : Int) < ((y158.length : Int) : Int) := of_decide_eq_true (by first | (with_reducible assumption) | assumption); first | (have e_ := (Kd.R_reads' HO160.out).1; omega) | simpa only [Ny163.out, List.length_set] using h_); have ql164 : ((t161 : Int) < ((y158.length : Int) : Int)) = True := eq_true (of_decide_eq_true (by first | (with_reducible assumption) | assumption)); obtain ⟨ad164, e164, hx164_0, hx164_1, hx164_2⟩ := at_T55 (Kd.R_reads' HO160.out).2.2 t161 p164 q164; obtain rfl : (⟨go14, 0, none⟩ : Addr) = ad164 := (by injection e164); (first | simp only [add_plain] at hx164_0 | simp only [add_at] at hx164_0 | simp only [Addr.add, Nat.zero_add] at hx164_0 | skip); (first | simp only [add_plain] at hx164_1 | simp only [add_at] at hx164_1 | simp only [Addr.add, Nat.zero_add] at hx164_1 | skip); (first | simp only [add_plain] at hx164_2 | simp only [add_at] at hx164_2 | simp only [Addr.add, Nat.zero_add] at hx164_2 | skip); replace p164 := eq_true p164; replace q164 := eq_true q164; have p16 : 0 ≤ (t161 : Int) := of_decide_eq_true (by first | (with_reducible assumption) | assumption); have q16 : (t161 : Int) < ((y158.length : Int) : Int) := of_decide_eq_true (by first | (with_reducible assumption) | assumption); obtain ⟨ce16, hcl16, hM16, hcc16, hfr16⟩ := Kd.R_elem HO160.out z55 (t161 : Int) p16 q16; obtain rfl := k55_openM hM16; have hx16_0 : w23.cell? ⟨go14, (t161 : Int).toNat * 3, none⟩ = some (.int .i64 ((rd_T55 y163 t161).f0)) := hcc16 0 _ rfl; have hx16_1 : w23.cell? ⟨go14, (t161 : Int).toNat * 3 + 1, none⟩ = some (.int .i64 ((rd_T55 y163 t161).f1)) := hcc16 1 _ rfl; have hx16_2 : w23.cell? ⟨go14, (t161 : Int).toNat * 3 + 2, none⟩ = some (.int .i64 ((rd_T55 y163 t161).f2)) := hcc16 2 _ rfl; have hf16_0 : w23.frozen? ⟨go14, (t161 : Int).toNat * 3, none⟩ = false := hfr16 0; have hf16_1 : w23.frozen? ⟨go14, (t161 : Int).toNat * 3 + 1, none⟩ = false := hfr16 1; have hf16_2 : w23.frozen? ⟨go14, (t161 : Int).toNat * 3 + 2, none⟩ = false := hfr16 2; clear hcl16 hcc16 hfr16 hM16; replace p16 := eq_true p16; replace q16 := eq_true q16; have HX24 := Aside0.mk (show Kd.R k55 55 w23 w.heap.size (fun _ => True) (.slice (some ⟨go14, 0, none⟩) y158.length co21) y163 from (by (with_reducible repeat (first | apply Kd.R_alloc | apply Kd.R_drewN | apply Kd.R_drew)); exact HO160.out)); obtain ⟨ce24, hcl24, hM24, hcc24, hfr24⟩ := Kd.R_elem HX24.out z55 (t161 : Int) (of_decide_eq_true (by first | (with_reducible assumption) | assumption)) (by have h_ : (t161 : Int) < ((y158.length : Int) : Int) := of_decide_eq_true (by first | (with_reducible assumption) | assumption); first | exact h_ | (have e_ := (Kd.R_reads' HO160.out).1; omega) | simpa using h_); obtain rfl := k55_openM hM24; have HP24 := Kd.R_seg HX24.out (t161 : Int) (of_decide_eq_true (by first | (with_reducible assumption) | assumption)) (by have h_ : (t161 : Int) < ((y158.length : Int) : Int) := of_decide_eq_true (by first | (with_reducible assumption) | assumption); first | exact h_ | (have e_ := (Kd.R_reads' HO160.out).1; omega) | simpa using h_) (seg := [.int .i64 ji15]) (j := 2) hcl24 hcc24 (show 3 ≤ 3 from by decide) (x' := (⟨(rd_T55 y163 t161).f0, (rd_T55 y163 t161).f1, ji15⟩ : S55)) (k55_mkM _ _ _ (⟨(rd_T55 y163 t161).f0, (rd_T55 y163 t161).f1, ji15⟩ : S55) ) (fun _ hk => hk); have hx24_2 := hcc24 2 _ rfl; (try simp only [show (k55).sz = 3 from rfl, Nat.mul_one, Nat.add_zero] at hx24_2); have hf24_2 := hfr24 2; (try simp only [show (k55).sz = 3 from rfl, Nat.mul_one, Nat.add_zero] at hf24_2); clear hcl24 hcc24 hfr24 hM24) | ((with_reducible refine gate_store (t := 2) (p := 47) rfl ?_); refine store_event (t := 2) (p := 47) (v := ?vo_w25) (w1 := (w23.setCell ⟨go14, (t161 : Int).toNat * 3 + 2, none⟩ (.int .i64 ji15))) ?hg ?ho ?hn ?hr ?_; (case ho => rfl); (case hg => rfl); (case hn => rfl); (case hr => first | (go_simp; done) | (go_simp; rfl)); intro w25 hw; have hg : w23.grownBy w25 (some go14) := (by rw [hw]; exact HP24.2); have hp_ : Kd.R k55 55 w25 w.heap.size (fun _ => True) (.slice (some ⟨go14, 0, none⟩) y158.length co21) y165 := (by rw [hw, Ny165.out]; exact HP24.1); clear HP24; have n0_ := Aside0.mk (hp_); have n1_ := Aside0.mk ((by rw [hw]; exact below_set (HB.out) GB14.out : Below w.heap.size w w25)); clear HO160; clear HB; have HO160 := n0_; have HB := n1_; clear n0_ n1_; clear hg hw hp_))
              go_ret2
              exact ⟨_, by first | rfl | (simp [errW_none, errW_some] <;> rfl) | (simp only [← hji13, ← hji15]; first | rfl | (simp [errW_none, errW_some] <;> rfl)) | (simp [*, errW_none, errW_some] <;> rfl), by (with_reducible repeat (first | apply Kd.R_alloc | apply Kd.R_drewN | apply Kd.R_drew)); exact HO160.out, by repeat (first | (with_reducible first | exact HB.out | apply below_alloc | apply pw_below_drewN | apply below_drew1) | exact HB.out)⟩
            · rw [if_neg c12] at H
              exact absurd H (by simp)
          · rw [if_neg c11] at H
            exact absurd H (by simp)
        · rw [if_neg c9] at H
          exact absurd H (by simp)
      · rw [if_neg c8] at H
        have c8b0 : (t154 == 0) = false := beq_eq_false_iff_ne.mpr c8
        have c8b1 : (t154 != 0) = true := bne_iff_ne.mpr c8
        simp only [Option.some.injEq, Prod.mk.injEq] at H
        obtain ⟨rfl, rfl⟩ := H
        go_wp2_with (first | ((with_reducible refine gate_callee (f := 53) rfl ?_); refine goesL_ (some 16) rfl rfl Try.func53 (by kernel_rfl) rfl #[.slice A0 l0.length c0, .int .i64 x1_4] rfl (by (try simp only [List.map_toArray, List.map_cons, List.map_nil]); first | done | rfl | (simp only [List.length_drop, List.length_take]; rfl) | (go_simp; done) | (simp; done) | (simp; rfl)) ?_; (with_reducible refine (spec_l05Code.calls kj4 _ _ l0 x1_4 t154 _ ?side1 ?side2 A7.out).mono ?_); (case side1 => repeat (first | exact (Kd.C_below HR0.out HB.out) | (with_reducible refine Kd.C_alloc ?_ _) | (with_reducible refine Kd.C_drewN ?_ _) | (with_reducible refine Kd.C_drew ?_))); (case side2 => exact HC0.out); rintro e w26 ⟨rfl, hb⟩; refine ⟨_, rfl, ?_⟩; have n0_ := Aside0.mk (below_step (by repeat (first | (with_reducible first | exact HB.out | apply below_alloc | apply pw_below_drewN | apply below_drew1) | exact HB.out)) hb); clear HB; have HB := n0_; clear n0_; (try clear hb); (try clear hb2); (try clear hk); (try clear hi)))
        go_ret2
        exact ⟨_, by first | rfl | (simp [errW_none, errW_some] <;> rfl) | (simp [*, errW_none, errW_some] <;> rfl), by first | exact Kd.R_nil _ _ _ _ _ | exact Kd.N_nil _ _ _ _ _ | exact Kd.V_nil _ _ _ _ _ | exact Kd.Q_nil _ _ _ _ _ | exact Kd.S_nil _ _ _ _ _, by repeat (first | (with_reducible first | exact HB.out | apply below_alloc | apply pw_below_drewN | apply below_drew1) | exact HB.out)⟩

/-! ### impl_within: function 51 -/
def impl_within.f (a0 : Int) (a1 : Int) (a2 : Int) : Option (Bool) := if a1 ≤ a0 then (some (decide (a0 ≤ a2))) else (some false)
set_option maxHeartbeats 8000000 in
set_option maxRecDepth 100000 in
theorem impl_within.calls (a0 : Int) (a1 : Int) (a2 : Int) (r : Bool) (w : World) (h : impl_within.f a0 a1 a2 = some r) :
    Calls Try.prog 51 #[.int .i64 a0, .int .i64 a1, .int .i64 a2] w fun e w' => e = .returned (.bool r) ∧ Drawn0 w w' := by
  have H : (if a1 ≤ a0 then (some (decide (a0 ≤ a2))) else (some false)) = some r := h
  clear h
  by_cases c4 : a1 ≤ a0
  · rw [if_pos c4] at H
    have c4b0 : decide (a1 ≤ a0) = true := decide_eq_true c4
    clear c4
    obtain rfl := Option.some.inj H
    simp only [Option.some.injEq, Prod.mk.injEq] at H
    obtain ⟨rfl⟩ := H
    go_enter Try.func51, Try.ntmps51
    go_wp2
    go_ret
    exact ⟨by first | rfl | (simp; done) | (simp [*]; done), by repeat (first | exact Drawn0.refl _ | apply Drawn0.step)⟩
  · rw [if_neg c4] at H
    have c4b0 : decide (a1 ≤ a0) = false := decide_eq_false c4
    clear c4
    obtain rfl := Option.some.inj H
    simp only [Option.some.injEq, Prod.mk.injEq] at H
    obtain ⟨rfl⟩ := H
    go_enter Try.func51, Try.ntmps51
    go_wp2
    go_ret
    exact ⟨by first | rfl | (simp; done) | (simp [*]; done), by repeat (first | exact Drawn0.refl _ | apply Drawn0.step)⟩

/-! ### impl_isSide: function 62 -/
def impl_isSide.f (a0 : Int) : Option (Bool) := (impl_within.f a0 (-50000) 50000).bind fun t166 => (some t166)
set_option maxHeartbeats 8000000 in
set_option maxRecDepth 100000 in
theorem impl_isSide.calls (a0 : Int) (r : Bool) (w : World) (h : impl_isSide.f a0 = some r) :
    Calls Try.prog 62 #[.int .i64 a0] w fun e w' => e = .returned (.bool r) ∧ Drawn0 w w' := by
  have H : ((impl_within.f a0 (-50000) 50000).bind fun t166 => (some t166)) = some r := h
  clear h
  replace H := Option.bind_eq_some_iff.mp H
  obtain ⟨t166, A20, H⟩ := H
  replace H : (some t166) = some r := H
  have A2 := Aside0.mk A20
  clear A20
  obtain rfl := Option.some.inj H
  simp only [Option.some.injEq, Prod.mk.injEq] at H
  obtain ⟨rfl⟩ := H
  go_enter Try.func62, Try.ntmps62
  go_wp2_with (first | ((with_reducible refine gate_callee (f := 51) rfl ?_); refine goesL_ (some 4) rfl rfl Try.func51 (by kernel_rfl) rfl #[.int .i64 a0, .int .i64 (-50000), .int .i64 50000] rfl (by (try simp only [List.map_toArray, List.map_cons, List.map_nil]); first | done | rfl | (simp only [List.length_drop, List.length_take]; rfl) | (go_simp; done) | (simp; done) | (simp; rfl)) ?_; (with_reducible refine (impl_within.calls a0 (-50000) 50000 t166 _ A2.out).mono ?_); rintro e w' ⟨rfl, ⟨nd, rfl⟩⟩; refine ⟨_, rfl, ?_⟩))
  go_ret
  exact ⟨by first | rfl | (simp; done) | (simp [*]; done), by repeat (first | exact Drawn0.refl _ | apply Drawn0.step)⟩

/-! ### impl_areWinds: function 52 -/
def impl_areWinds.f (a0 : Int) (a1 : Int) : Option (Bool) := (impl_isSide.f a0).bind fun t167 => (if t167 = true then ((impl_isSide.f a1).bind fun t168 => (if t168 = true then (some (decide (a0 ≤ a1))) else (some false))) else (some false))
set_option maxHeartbeats 8000000 in
set_option maxRecDepth 100000 in
theorem impl_areWinds.calls (a0 : Int) (a1 : Int) (r : Bool) (w : World) (h : impl_areWinds.f a0 a1 = some r) :
    Calls Try.prog 52 #[.int .i64 a0, .int .i64 a1] w fun e w' => e = .returned (.bool r) ∧ Drawn0 w w' := by
  have H : ((impl_isSide.f a0).bind fun t167 => (if t167 = true then ((impl_isSide.f a1).bind fun t168 => (if t168 = true then (some (decide (a0 ≤ a1))) else (some false))) else (some false))) = some r := h
  clear h
  replace H := Option.bind_eq_some_iff.mp H
  obtain ⟨t167, A30, H⟩ := H
  replace H : (if t167 = true then ((impl_isSide.f a1).bind fun t168 => (if t168 = true then (some (decide (a0 ≤ a1))) else (some false))) else (some false)) = some r := H
  have A3 := Aside0.mk A30
  clear A30
  by_cases c4 : t167 = true
  · subst c4
    have H1 : ((impl_isSide.f a1).bind fun t168 => (if t168 = true then (some (decide (a0 ≤ a1))) else (some false))) = some r := by rw [if_pos rfl] at H; exact H
    clear H
    have H := H1
    clear H1
    replace H := Option.bind_eq_some_iff.mp H
    obtain ⟨t168, A50, H⟩ := H
    replace H : (if t168 = true then (some (decide (a0 ≤ a1))) else (some false)) = some r := H
    have A5 := Aside0.mk A50
    clear A50
    by_cases c6 : t168 = true
    · subst c6
      have H1 : (some (decide (a0 ≤ a1))) = some r := by rw [if_pos rfl] at H; exact H
      clear H
      have H := H1
      clear H1
      obtain rfl := Option.some.inj H
      simp only [Option.some.injEq, Prod.mk.injEq] at H
      obtain ⟨rfl⟩ := H
      go_enter Try.func52, Try.ntmps52
      go_wp2_with (first | ((with_reducible refine gate_callee (f := 62) rfl ?_); refine goesL_ (some 6) rfl rfl Try.func62 (by kernel_rfl) rfl #[.int .i64 a0] rfl (by (try simp only [List.map_toArray, List.map_cons, List.map_nil]); first | done | rfl | (simp only [List.length_drop, List.length_take]; rfl) | (go_simp; done) | (simp; done) | (simp; rfl)) ?_; (with_reducible refine (impl_isSide.calls a0 true _ A3.out).mono ?_); rintro e w' ⟨rfl, ⟨nd, rfl⟩⟩; refine ⟨_, rfl, ?_⟩) | (go_at_call 62; (with_reducible refine (impl_isSide.calls a1 true _ A5.out).mono ?_); rintro e w' ⟨rfl, ⟨nd, rfl⟩⟩))
      go_ret
      exact ⟨by first | rfl | (simp; done) | (simp [*]; done), by repeat (first | exact Drawn0.refl _ | apply Drawn0.step)⟩
    · replace c6 := Bool.eq_false_iff.mpr c6
      subst c6
      have H1 : (some false) = some r := by rw [if_neg (show ¬ (false = true) by decide)] at H; exact H
      clear H
      have H := H1
      clear H1
      obtain rfl := Option.some.inj H
      simp only [Option.some.injEq, Prod.mk.injEq] at H
      obtain ⟨rfl⟩ := H
      go_enter Try.func52, Try.ntmps52
      go_wp2_with (first | ((with_reducible refine gate_callee (f := 62) rfl ?_); refine goesL_ (some 6) rfl rfl Try.func62 (by kernel_rfl) rfl #[.int .i64 a0] rfl (by (try simp only [List.map_toArray, List.map_cons, List.map_nil]); first | done | rfl | (simp only [List.length_drop, List.length_take]; rfl) | (go_simp; done) | (simp; done) | (simp; rfl)) ?_; (with_reducible refine (impl_isSide.calls a0 true _ A3.out).mono ?_); rintro e w' ⟨rfl, ⟨nd, rfl⟩⟩; refine ⟨_, rfl, ?_⟩) | (go_at_call 62; (with_reducible refine (impl_isSide.calls a1 false _ A5.out).mono ?_); rintro e w' ⟨rfl, ⟨nd, rfl⟩⟩))
      go_ret
      exact ⟨by first | rfl | (simp; done) | (simp [*]; done), by repeat (first | exact Drawn0.refl _ | apply Drawn0.step)⟩
  · replace c4 := Bool.eq_false_iff.mpr c4
    subst c4
    have H1 : (some false) = some r := by rw [if_neg (show ¬ (false = true) by decide)] at H; exact H
    clear H
    have H := H1
    clear H1
    obtain rfl := Option.some.inj H
    simp only [Option.some.injEq, Prod.mk.injEq] at H
    obtain ⟨rfl⟩ := H
    go_enter Try.func52, Try.ntmps52
    go_wp2_with (first | ((with_reducible refine gate_callee (f := 62) rfl ?_); refine goesL_ (some 6) rfl rfl Try.func62 (by kernel_rfl) rfl #[.int .i64 a0] rfl (by (try simp only [List.map_toArray, List.map_cons, List.map_nil]); first | done | rfl | (simp only [List.length_drop, List.length_take]; rfl) | (go_simp; done) | (simp; done) | (simp; rfl)) ?_; (with_reducible refine (impl_isSide.calls a0 false _ A3.out).mono ?_); rintro e w' ⟨rfl, ⟨nd, rfl⟩⟩; refine ⟨_, rfl, ?_⟩))
    go_ret
    exact ⟨by first | rfl | (simp; done) | (simp [*]; done), by repeat (first | exact Drawn0.refl _ | apply Drawn0.step)⟩

/-! ### impl_IsProfile: function 17 -/
mutual
def impl_IsProfile.j0 : Nat → List (S55) → Bool → Option (Bool)
  | 0, _, _ => none
  | k + 1, x0, x12 => if x12 = true then (some false) else (impl_IsProfile.l0 k x0 x0 (x0.length : Int) 0)
def impl_IsProfile.l0 : Nat → List (S55) → List (S55) → Int → Int → Option (Bool)
  | 0, _, _, _, _ => none
  | k + 1, x0, x13, x14, x15 => if x15 < x14 then (if 0 ≤ x15 then (if x15 < (x13.length : Int) then ((impl_within.f ((rd_T55 x13 x15).f0) 1 1000000).bind fun t171 => (if t171 = true then ((impl_areWinds.f ((rd_T55 x13 x15).f1) ((rd_T55 x13 x15).f2)).bind fun t172 => (if t172 = true then (if x15 > 0 then (if 0 ≤ (wrap64 (x15 - 1)) then (if (wrap64 (x15 - 1)) < (x0.length : Int) then (if ((rd_T55 x0 (wrap64 (x15 - 1))).f0) ≥ ((rd_T55 x13 x15).f0) then (some false) else (impl_IsProfile.l0 k x0 x13 x14 (wrap64 (x15 + 1)))) else (none)) else (none)) else (impl_IsProfile.l0 k x0 x13 x14 (wrap64 (x15 + 1)))) else (some false))) else (some false))) else (none)) else (none)) else (some true)
end
def impl_IsProfile.f (k : Nat) (l0 : List (S55)) : Option (Bool) := if (l0.length : Int) < 1 then (impl_IsProfile.j0 k l0 true) else (impl_IsProfile.j0 k l0 (decide ((l0.length : Int) > 6)))
theorem impl_IsProfile.mono_l : ∀ k, (∀ y0 y1, LeO (impl_IsProfile.j0 k y0 y1) (impl_IsProfile.j0 (k + 1) y0 y1)) ∧ (∀ y0 y1 y2 y3, LeO (impl_IsProfile.l0 k y0 y1 y2 y3) (impl_IsProfile.l0 (k + 1) y0 y1 y2 y3))
  | 0 => ⟨fun _ _ r h => by simp [impl_IsProfile.j0] at h, fun _ _ _ _ r h => by simp [impl_IsProfile.l0] at h⟩
  | k + 1 => by
    obtain ⟨ih0, ih1⟩ := impl_IsProfile.mono_l k
    refine ⟨?_, ?_⟩
    · intro y0 y1
      unfold impl_IsProfile.j0
      repeat' first
      | (with_reducible exact ih0 _ _)
      | (with_reducible exact ih1 _ _ _ _)
      | (with_reducible exact LeO.refl _)
      | (with_reducible exact LeO.none _)
      | (with_reducible refine LeO.ite ?_ ?_)
      | (with_reducible refine LeO.bind ?_ (fun _ => ?_))
      | exact ih0 _ _
      | exact ih1 _ _ _ _
      | exact LeO.none _
      | refine LeO.ite ?_ ?_
      | refine LeO.bind ?_ (fun _ => ?_)
    · intro y0 y1 y2 y3
      unfold impl_IsProfile.l0
      repeat' first
      | (with_reducible exact ih0 _ _)
      | (with_reducible exact ih1 _ _ _ _)
      | (with_reducible exact LeO.refl _)
      | (with_reducible exact LeO.none _)
      | (with_reducible refine LeO.ite ?_ ?_)
      | (with_reducible refine LeO.bind ?_ (fun _ => ?_))
      | exact ih0 _ _
      | exact ih1 _ _ _ _
      | exact LeO.none _
      | refine LeO.ite ?_ ?_
      | refine LeO.bind ?_ (fun _ => ?_)
theorem impl_IsProfile.mono : ∀ a0 k, LeO (impl_IsProfile.f k a0) (impl_IsProfile.f (k + 1) a0) := by
  intro a0 k
  obtain ⟨ih0, ih1⟩ := impl_IsProfile.mono_l k
  unfold impl_IsProfile.f
  repeat' first
      | (with_reducible exact ih0 _ _)
      | (with_reducible exact ih1 _ _ _ _)
      | (with_reducible exact LeO.refl _)
      | (with_reducible exact LeO.none _)
      | (with_reducible refine LeO.ite ?_ ?_)
      | (with_reducible refine LeO.bind ?_ (fun _ => ?_))
      | exact ih0 _ _
      | exact ih1 _ _ _ _
      | exact LeO.none _
      | refine LeO.ite ?_ ?_
      | refine LeO.bind ?_ (fun _ => ?_)
set_option maxHeartbeats 8000000 in
set_option maxRecDepth 100000 in
theorem impl_IsProfile.calls (k : Nat) (A0 : Option Addr) (c0 : Nat) (l0 : List (S55)) (r : Bool) (w : World) (hr0 : Kd.C k55 w A0 l0.length l0) (hc0 : l0.length ≤ c0) (h : impl_IsProfile.f k l0 = some r) :
    Calls Try.prog 17 #[.slice A0 l0.length c0] w fun e w' => e = .returned (.bool r) ∧ Below w.heap.size w w' := by
  have hu55 := Try.underlying55
  have HR0 := Aside0.mk hr0
  have HC0 := Aside0.mk hc0
  clear hr0 hc0
  have HB := Aside0.mk (Below.refl w.heap.size w)
  have H : (if (l0.length : Int) < 1 then (impl_IsProfile.j0 k l0 true) else (impl_IsProfile.j0 k l0 (decide ((l0.length : Int) > 6)))) = some r := h
  clear h
  have HC2 := Aside0.mk H
  clear H
  go_enter Try.func17, Try.ntmps17
  go_upto_region 1 with (fail)
  repeat (go_quiet (fail); go_upto_region 1 with (fail))
  go_cut [12] (fun v12 wc => ∃ (kq : Nat) (x12_1 : Bool), v12 = .bool x12_1 ∧ Aside0 (impl_IsProfile.j0 kq l0 x12_1 = some r) ∧ Aside0 (kq ≤ k) ∧ Aside0 (Below w.heap.size w wc))
  case first =>
    have H := HC2.out
    clear HC2
    by_cases c3 : (l0.length : Int) < 1
    · rw [if_pos c3] at H
      have c3b0 : decide ((l0.length : Int) < 1) = true := decide_eq_true c3
      have c3b1 : decide (l0.length < 1) = true := decide_eq_true (by omega)
      clear c3
      (first | rw [c3b0] | (simp only [i64_w, i32_w]; rw [c3b0]) | skip)
      have H' := Aside0.mk H
      clear H
      go_wp2
      repeat (go_quiet (fail); try go_wp2)
      go_meet
      case rel => exact ⟨_, (true), (by first | rfl | (simp; done) | (simp [*]; done)), H', ⟨by first | omega | exact Nat.le_refl _⟩, ⟨by repeat (first | (with_reducible first | exact HB.out | apply below_alloc | apply pw_below_drewN | apply below_drew1) | exact HB.out)⟩⟩
    · rw [if_neg c3] at H
      have c3b0 : decide ((l0.length : Int) < 1) = false := decide_eq_false c3
      have c3b1 : decide (l0.length < 1) = false := decide_eq_false (by omega)
      clear c3
      (first | rw [c3b0] | (simp only [i64_w, i32_w]; rw [c3b0]) | skip)
      have H' := Aside0.mk H
      clear H
      go_wp2
      repeat (go_quiet (fail); try go_wp2)
      go_meet
      case rel => exact ⟨_, (decide ((l0.length : Int) > 6)), (by first | rfl | (simp; done) | (simp [*]; done)), H', ⟨by first | omega | exact Nat.le_refl _⟩, ⟨by repeat (first | (with_reducible first | exact HB.out | apply below_alloc | apply pw_below_drewN | apply below_drew1) | exact HB.out)⟩⟩
  case rest =>
    clear HC2
    try clear c1
    try clear p2
    try clear c3
    try clear c3b0
    try clear c3b1
    obtain ⟨kq, x12_1, rfl, HA, HJ1, HB⟩ := hcut
    cases kq with
    | zero => exact absurd HA.out (by simp [impl_IsProfile.j0])
    | succ kj1 =>
      have H := HA.out
      clear HA
      simp only [impl_IsProfile.j0] at H
      by_cases c4 : x12_1 = true
      · subst c4
        have H1 : (some false) = some r := by rw [if_pos rfl] at H; exact H
        clear H
        have H := H1
        clear H1
        obtain rfl := Option.some.inj H
        simp only [Option.some.injEq, Prod.mk.injEq] at H
        obtain ⟨rfl⟩ := H
        go_wp2
        repeat (go_quiet (fail); try go_wp2)
        go_ret
        exact ⟨by first | rfl | (simp [errW_none, errW_some] <;> rfl) | (simp [*, errW_none, errW_some] <;> rfl), by repeat (first | (with_reducible first | exact HB.out | apply below_alloc | apply pw_below_drewN | apply below_drew1) | exact HB.out)⟩
      · replace c4 := Bool.eq_false_iff.mpr c4
        subst c4
        have H1 : (impl_IsProfile.l0 kj1 l0 l0 (l0.length : Int) 0) = some r := by rw [if_neg (show ¬ (false = true) by decide)] at H; exact H
        clear H
        have H := H1
        clear H1
        have H' := Aside0.mk H
        clear H
        go_wp2
        repeat (go_quiet (fail); try go_wp2)
        go_loopg [15] kj1 (fun kq v15 w' => ∃ (x15_2 : Int), v15 = .int .i64 x15_2 ∧ Aside0 (impl_IsProfile.l0 kq l0 l0 (l0.length : Int) x15_2 = some r) ∧ Aside0 (kq ≤ kj1) ∧ Aside0 (Below w.heap.size w w'))
        case atStart => exact ⟨(0), (by first | rfl | (simp; done) | (simp [*]; done)), H', ⟨Nat.le_refl _⟩, ⟨by repeat (first | (with_reducible first | exact HB.out | apply below_alloc | apply pw_below_drewN | apply below_drew1) | exact HB.out)⟩⟩
        case round =>
          clear H'
          try clear c1
          try clear p2
          try clear c3
          try clear c3b0
          try clear c3b1
          try clear c4
          try clear p2
          obtain ⟨x15_2, rfl, HA, HK2, HB⟩ := hrel
          cases gk with
          | zero => exact absurd HA.out (by simp [impl_IsProfile.l0])
          | succ k2 =>
            have H := HA.out
            clear HA
            simp only [impl_IsProfile.l0] at H
            by_cases c5 : x15_2 < (l0.length : Int)
            · rw [if_pos c5] at H
              have c5b0 : decide (x15_2 < (l0.length : Int)) = true := decide_eq_true c5
              clear c5
              by_cases c6 : 0 ≤ x15_2
              · rw [if_pos c6] at H
                have c6b0 : decide (0 ≤ x15_2) = true := decide_eq_true c6
                clear c6
                by_cases c7 : x15_2 < (l0.length : Int)
                · rw [if_pos c7] at H
                  have c7b0 : decide (x15_2 < (l0.length : Int)) = true := decide_eq_true c7
                  clear c7
                  replace H := Option.bind_eq_some_iff.mp H
                  obtain ⟨t171, A80, H⟩ := H
                  replace H : (if t171 = true then ((impl_areWinds.f ((rd_T55 l0 x15_2).f1) ((rd_T55 l0 x15_2).f2)).bind fun t172 => (if t172 = true then (if x15_2 > 0 then (if 0 ≤ (wrap64 (x15_2 - 1)) then (if (wrap64 (x15_2 - 1)) < (l0.length : Int) then (if ((rd_T55 l0 (wrap64 (x15_2 - 1))).f0) ≥ ((rd_T55 l0 x15_2).f0) then (some false) else (impl_IsProfile.l0 k2 l0 l0 (l0.length : Int) (wrap64 (x15_2 + 1)))) else (none)) else (none)) else (impl_IsProfile.l0 k2 l0 l0 (l0.length : Int) (wrap64 (x15_2 + 1)))) else (some false))) else (some false)) = some r := H
                  have A8 := Aside0.mk A80
                  clear A80
                  by_cases c9 : t171 = true
                  · subst c9
                    have H1 : ((impl_areWinds.f ((rd_T55 l0 x15_2).f1) ((rd_T55 l0 x15_2).f2)).bind fun t172 => (if t172 = true then (if x15_2 > 0 then (if 0 ≤ (wrap64 (x15_2 - 1)) then (if (wrap64 (x15_2 - 1)) < (l0.length : Int) then (if ((rd_T55 l0 (wrap64 (x15_2 - 1))).f0) ≥ ((rd_T55 l0 x15_2).f0) then (some false) else (impl_IsProfile.l0 k2 l0 l0 (l0.length : Int) (wrap64 (x15_2 + 1)))) else (none)) else (none)) else (impl_IsProfile.l0 k2 l0 l0 (l0.length : Int) (wrap64 (x15_2 + 1)))) else (some false))) = some r := by rw [if_pos rfl] at H; exact H
                    clear H
                    have H := H1
                    clear H1
                    replace H := Option.bind_eq_some_iff.mp H
                    obtain ⟨t172, A100, H⟩ := H
                    replace H : (if t172 = true then (if x15_2 > 0 then (if 0 ≤ (wrap64 (x15_2 - 1)) then (if (wrap64 (x15_2 - 1)) < (l0.length : Int) then (if ((rd_T55 l0 (wrap64 (x15_2 - 1))).f0) ≥ ((rd_T55 l0 x15_2).f0) then (some false) else (impl_IsProfile.l0 k2 l0 l0 (l0.length : Int) (wrap64 (x15_2 + 1)))) else (none)) else (none)) else (impl_IsProfile.l0 k2 l0 l0 (l0.length : Int) (wrap64 (x15_2 + 1)))) else (some false)) = some r := H
                    have A10 := Aside0.mk A100
                    clear A100
                    by_cases c11 : t172 = true
                    · subst c11
                      have H1 : (if x15_2 > 0 then (if 0 ≤ (wrap64 (x15_2 - 1)) then (if (wrap64 (x15_2 - 1)) < (l0.length : Int) then (if ((rd_T55 l0 (wrap64 (x15_2 - 1))).f0) ≥ ((rd_T55 l0 x15_2).f0) then (some false) else (impl_IsProfile.l0 k2 l0 l0 (l0.length : Int) (wrap64 (x15_2 + 1)))) else (none)) else (none)) else (impl_IsProfile.l0 k2 l0 l0 (l0.length : Int) (wrap64 (x15_2 + 1)))) = some r := by rw [if_pos rfl] at H; exact H
                      clear H
                      have H := H1
                      clear H1
                      by_cases c12 : x15_2 > 0
                      · rw [if_pos c12] at H
                        have c12b0 : decide (0 < x15_2) = true := decide_eq_true c12
                        clear c12
                        obtain ⟨ji13, hji13⟩ : ∃ j_ : Int, (wrap64 (x15_2 - 1)) = j_ := ⟨_, rfl⟩
                        replace H : (if 0 ≤ (ji13) then (if (ji13) < (l0.length : Int) then (if ((rd_T55 l0 (ji13)).f0) ≥ ((rd_T55 l0 x15_2).f0) then (some false) else (impl_IsProfile.l0 k2 l0 l0 (l0.length : Int) (wrap64 (x15_2 + 1)))) else (none)) else (none)) = some r := by first | (rw [hji13] at H; exact H) | (simp only [hji13] at H ⊢; exact H)
                        (try rw [hji13] at A8)
                        (try rw [hji13] at A10)
                        have hji13w : (IntKind.i64.wrap (x15_2 - 1)) = ji13 := (i64_w _).trans hji13
                        by_cases c14 : 0 ≤ (ji13)
                        · rw [if_pos c14] at H
                          have c14b0 : decide (0 ≤ (ji13)) = true := decide_eq_true c14
                          clear c14
                          by_cases c15 : (ji13) < (l0.length : Int)
                          · rw [if_pos c15] at H
                            have c15b0 : decide ((ji13) < (l0.length : Int)) = true := decide_eq_true c15
                            clear c15
                            by_cases c16 : ((rd_T55 l0 (ji13)).f0) ≥ ((rd_T55 l0 x15_2).f0)
                            · rw [if_pos c16] at H
                              have c16b0 : decide (((rd_T55 l0 x15_2).f0) ≤ ((rd_T55 l0 (ji13)).f0)) = true := decide_eq_true c16
                              clear c16
                              obtain rfl := Option.some.inj H
                              simp only [Option.some.injEq, Prod.mk.injEq] at H
                              obtain ⟨rfl⟩ := H
                              have p169 : 0 ≤ (x15_2 : Int) := of_decide_eq_true (by first | (with_reducible assumption) | assumption)
                              have q169 : x15_2 < (l0.length : Int) := of_decide_eq_true (by first | (with_reducible assumption) | assumption)
                              obtain ⟨ad169, e169, hx169_0, hx169_1, hx169_2⟩ := at_T55 HR0.out x15_2 p169 q169
                              cases e169
                              replace hx169_0 := (HB.out.cell (World.block_lt_of_cell? _ _ hx169_0)).trans hx169_0
                              replace hx169_1 := (HB.out.cell (World.block_lt_of_cell? _ _ hx169_1)).trans hx169_1
                              replace hx169_2 := (HB.out.cell (World.block_lt_of_cell? _ _ hx169_2)).trans hx169_2
                              replace p169 := eq_true p169
                              replace q169 := eq_true q169
                              go_wp2_with (first | ((with_reducible refine gate_dst (N := 4) rfl ?_); (try (refine gate_guard (by rfl) ?_; dsimp only)); refine box_event ?hg (N := 4) ?hd (cs := #[.int .i64 0, .int .i64 0, .int .i64 0]) (t := 55) ?hr ?_; (case hd => rfl); (case hg => rfl); (case hr => first | (go_simp; done) | (go_simp; rfl)); intro gb170 hg w17 hbox hb; have n0_ := Aside0.mk (below_step (by repeat (first | (with_reducible first | exact HB.out | apply below_alloc | apply pw_below_drewN | apply below_drew1) | exact HB.out)) hb); have n1_ := Aside0.mk (hbox); have n2_ := Aside0.mk ((by rw [hg]; exact (below_size (by repeat (first | (with_reducible first | exact HB.out | apply below_alloc | apply pw_below_drewN | apply below_drew1) | exact HB.out))) : w.heap.size ≤ gb170)); have n3_ := Aside0.mk ((by rw [hg]; exact (below_size (by repeat (first | (with_reducible first | exact HB.out | apply below_alloc | apply pw_below_drewN | apply below_drew1) | exact HB.out))) : w.heap.size ≤ gb170)); clear HB; have HB := n0_; have BK170 := n1_; have GW170 := n2_; have GE170 := n3_; clear n0_ n1_ n2_ n3_; clear hb hbox hg; have hcz18_0 : w17.cell? ⟨gb170, 0, none⟩ = some (.int .i64 0) := (blk_cell BK170.out 0).trans rfl; have hcz18_1 : w17.cell? ⟨gb170, 1, none⟩ = some (.int .i64 0) := (blk_cell BK170.out 1).trans rfl; have hcz18_2 : w17.cell? ⟨gb170, 2, none⟩ = some (.int .i64 0) := (blk_cell BK170.out 2).trans rfl; have hfz18_0 := blk_frozen BK170.out 0; have hfz18_1 := blk_frozen BK170.out 1; have hfz18_2 := blk_frozen BK170.out 2) | (go_at_call 51; (with_reducible refine (impl_within.calls ((rd_T55 l0 x15_2).f0) 1 1000000 true _ A8.out).mono ?_); rintro e w' ⟨rfl, ⟨nd, rfl⟩⟩; (try first | exact ⟨rfl, _, World.drewN_drewN _ _ _⟩ | exact ⟨rfl, _, Eq.trans (World.drewN_drewN _ _ _) (congrArg (World.drewN _) (Nat.add_assoc _ _ _))⟩)) | (go_at_call 52; (with_reducible refine (impl_areWinds.calls ((rd_T55 l0 x15_2).f1) ((rd_T55 l0 x15_2).f2) true _ A10.out).mono ?_); rintro e w' ⟨rfl, ⟨nd, rfl⟩⟩; (try first | exact ⟨rfl, _, World.drewN_drewN _ _ _⟩ | exact ⟨rfl, _, Eq.trans (World.drewN_drewN _ _ _) (congrArg (World.drewN _) (Nat.add_assoc _ _ _))⟩); have p173 : 0 ≤ ((ji13) : Int) := of_decide_eq_true (by first | (with_reducible assumption) | assumption); have q173 : (ji13) < (l0.length : Int) := of_decide_eq_true (by first | (with_reducible assumption) | assumption); obtain ⟨ad173, e173, hx173_0, hx173_1, hx173_2⟩ := at_T55 HR0.out (ji13) p173 q173; obtain rfl : ad169 = ad173 := (by injection e173); have hn173_0 : ad169.block ≠ gb170 := Nat.ne_of_lt (Nat.lt_of_lt_of_le (by have := World.block_lt_of_cell? _ _ hx173_0; first | rwa [add_block] at this | exact this) GW170.out); have hn173_1 : ad169.block ≠ gb170 := Nat.ne_of_lt (Nat.lt_of_lt_of_le (by have := World.block_lt_of_cell? _ _ hx173_0; first | rwa [add_block] at this | exact this) GW170.out); have hn173_2 : ad169.block ≠ gb170 := Nat.ne_of_lt (Nat.lt_of_lt_of_le (by have := World.block_lt_of_cell? _ _ hx173_0; first | rwa [add_block] at this | exact this) GW170.out); replace hx173_0 := (HB.out.cell (World.block_lt_of_cell? _ _ hx173_0)).trans hx173_0; replace hx173_1 := (HB.out.cell (World.block_lt_of_cell? _ _ hx173_1)).trans hx173_1; replace hx173_2 := (HB.out.cell (World.block_lt_of_cell? _ _ hx173_2)).trans hx173_2; replace hx173_0 := (cell_far (p := ⟨gb170, 0, none⟩) (by first | (rw [add_block]; exact hn173_0) | (show (Addr.add _ _).block ≠ _; rw [add_block]; exact hn173_0) | exact hn173_0) (.int .i64 ((rd_T55 l0 x15_2).f0))).trans hx173_0; replace hx173_1 := (cell_far (p := ⟨gb170, 0, none⟩) (by first | (rw [add_block]; exact hn173_0) | (show (Addr.add _ _).block ≠ _; rw [add_block]; exact hn173_0) | exact hn173_0) (.int .i64 ((rd_T55 l0 x15_2).f0))).trans hx173_1; replace hx173_2 := (cell_far (p := ⟨gb170, 0, none⟩) (by first | (rw [add_block]; exact hn173_0) | (show (Addr.add _ _).block ≠ _; rw [add_block]; exact hn173_0) | exact hn173_0) (.int .i64 ((rd_T55 l0 x15_2).f0))).trans hx173_2; replace hx173_0 := (cell_far (p := ⟨gb170, 1, none⟩) (by first | (rw [add_block]; exact hn173_1) | (show (Addr.add _ _).block ≠ _; rw [add_block]; exact hn173_1) | exact hn173_1) (.int .i64 ((rd_T55 l0 x15_2).f1))).trans hx173_0; replace hx173_1 := (cell_far (p := ⟨gb170, 1, none⟩) (by first | (rw [add_block]; exact hn173_1) | (show (Addr.add _ _).block ≠ _; rw [add_block]; exact hn173_1) | exact hn173_1) (.int .i64 ((rd_T55 l0 x15_2).f1))).trans hx173_1; replace hx173_2 := (cell_far (p := ⟨gb170, 1, none⟩) (by first | (rw [add_block]; exact hn173_1) | (show (Addr.add _ _).block ≠ _; rw [add_block]; exact hn173_1) | exact hn173_1) (.int .i64 ((rd_T55 l0 x15_2).f1))).trans hx173_2; replace hx173_0 := (cell_far (p := ⟨gb170, 2, none⟩) (by first | (rw [add_block]; exact hn173_2) | (show (Addr.add _ _).block ≠ _; rw [add_block]; exact hn173_2) | exact hn173_2) (.int .i64 ((rd_T55 l0 x15_2).f2))).trans hx173_0; replace hx173_1 := (cell_far (p := ⟨gb170, 2, none⟩) (by first | (rw [add_block]; exact hn173_2) | (show (Addr.add _ _).block ≠ _; rw [add_block]; exact hn173_2) | exact hn173_2) (.int .i64 ((rd_T55 l0 x15_2).f2))).trans hx173_1; replace hx173_2 := (cell_far (p := ⟨gb170, 2, none⟩) (by first | (rw [add_block]; exact hn173_2) | (show (Addr.add _ _).block ≠ _; rw [add_block]; exact hn173_2) | exact hn173_2) (.int .i64 ((rd_T55 l0 x15_2).f2))).trans hx173_2; (try have hy173_0 := fun (n_ : Nat) => (show (((((w17.drewN n_).setCell ⟨gb170, 0, none⟩ (.int .i64 ((rd_T55 l0 x15_2).f0))).setCell ⟨gb170, 1, none⟩ (.int .i64 ((rd_T55 l0 x15_2).f1))).setCell ⟨gb170, 2, none⟩ (.int .i64 ((rd_T55 l0 x15_2).f2)))).cell? _ = some _ from hx173_0)); (try have hy173_1 := fun (n_ : Nat) => (show (((((w17.drewN n_).setCell ⟨gb170, 0, none⟩ (.int .i64 ((rd_T55 l0 x15_2).f0))).setCell ⟨gb170, 1, none⟩ (.int .i64 ((rd_T55 l0 x15_2).f1))).setCell ⟨gb170, 2, none⟩ (.int .i64 ((rd_T55 l0 x15_2).f2)))).cell? _ = some _ from hx173_1)); (try have hy173_2 := fun (n_ : Nat) => (show (((((w17.drewN n_).setCell ⟨gb170, 0, none⟩ (.int .i64 ((rd_T55 l0 x15_2).f0))).setCell ⟨gb170, 1, none⟩ (.int .i64 ((rd_T55 l0 x15_2).f1))).setCell ⟨gb170, 2, none⟩ (.int .i64 ((rd_T55 l0 x15_2).f2)))).cell? _ = some _ from hx173_2)); (try have hy173_0_1 := fun (n_ : Nat) => (show (((((w17.setCell ⟨gb170, 0, none⟩ (.int .i64 ((rd_T55 l0 x15_2).f0))).drewN n_).setCell ⟨gb170, 1, none⟩ (.int .i64 ((rd_T55 l0 x15_2).f1))).setCell ⟨gb170, 2, none⟩ (.int .i64 ((rd_T55 l0 x15_2).f2)))).cell? _ = some _ from hx173_0)); (try have hy173_1_1 := fun (n_ : Nat) => (show (((((w17.setCell ⟨gb170, 0, none⟩ (.int .i64 ((rd_T55 l0 x15_2).f0))).drewN n_).setCell ⟨gb170, 1, none⟩ (.int .i64 ((rd_T55 l0 x15_2).f1))).setCell ⟨gb170, 2, none⟩ (.int .i64 ((rd_T55 l0 x15_2).f2)))).cell? _ = some _ from hx173_1)); (try have hy173_2_1 := fun (n_ : Nat) => (show (((((w17.setCell ⟨gb170, 0, none⟩ (.int .i64 ((rd_T55 l0 x15_2).f0))).drewN n_).setCell ⟨gb170, 1, none⟩ (.int .i64 ((rd_T55 l0 x15_2).f1))).setCell ⟨gb170, 2, none⟩ (.int .i64 ((rd_T55 l0 x15_2).f2)))).cell? _ = some _ from hx173_2)); (try have hy173_0_2 := fun (n_ : Nat) => (show (((((w17.setCell ⟨gb170, 0, none⟩ (.int .i64 ((rd_T55 l0 x15_2).f0))).setCell ⟨gb170, 1, none⟩ (.int .i64 ((rd_T55 l0 x15_2).f1))).drewN n_).setCell ⟨gb170, 2, none⟩ (.int .i64 ((rd_T55 l0 x15_2).f2)))).cell? _ = some _ from hx173_0)); (try have hy173_1_2 := fun (n_ : Nat) => (show (((((w17.setCell ⟨gb170, 0, none⟩ (.int .i64 ((rd_T55 l0 x15_2).f0))).setCell ⟨gb170, 1, none⟩ (.int .i64 ((rd_T55 l0 x15_2).f1))).drewN n_).setCell ⟨gb170, 2, none⟩ (.int .i64 ((rd_T55 l0 x15_2).f2)))).cell? _ = some _ from hx173_1)); (try have hy173_2_2 := fun (n_ : Nat) => (show (((((w17.setCell ⟨gb170, 0, none⟩ (.int .i64 ((rd_T55 l0 x15_2).f0))).setCell ⟨gb170, 1, none⟩ (.int .i64 ((rd_T55 l0 x15_2).f1))).drewN n_).setCell ⟨gb170, 2, none⟩ (.int .i64 ((rd_T55 l0 x15_2).f2)))).cell? _ = some _ from hx173_2)); (try have hy173_0_3 := fun (n_ : Nat) => (show (((((w17.setCell ⟨gb170, 0, none⟩ (.int .i64 ((rd_T55 l0 x15_2).f0))).setCell ⟨gb170, 1, none⟩ (.int .i64 ((rd_T55 l0 x15_2).f1))).setCell ⟨gb170, 2, none⟩ (.int .i64 ((rd_T55 l0 x15_2).f2))).drewN n_)).cell? _ = some _ from hx173_0)); (try have hy173_1_3 := fun (n_ : Nat) => (show (((((w17.setCell ⟨gb170, 0, none⟩ (.int .i64 ((rd_T55 l0 x15_2).f0))).setCell ⟨gb170, 1, none⟩ (.int .i64 ((rd_T55 l0 x15_2).f1))).setCell ⟨gb170, 2, none⟩ (.int .i64 ((rd_T55 l0 x15_2).f2))).drewN n_)).cell? _ = some _ from hx173_1)); (try have hy173_2_3 := fun (n_ : Nat) => (show (((((w17.setCell ⟨gb170, 0, none⟩ (.int .i64 ((rd_T55 l0 x15_2).f0))).setCell ⟨gb170, 1, none⟩ (.int .i64 ((rd_T55 l0 x15_2).f1))).setCell ⟨gb170, 2, none⟩ (.int .i64 ((rd_T55 l0 x15_2).f2))).drewN n_)).cell? _ = some _ from hx173_2)); clear hn173_0; clear hn173_1; clear hn173_2; replace p173 := eq_true p173; replace q173 := eq_true q173))
                              repeat (go_quiet (first | ((with_reducible refine gate_dst (N := 4) rfl ?_); (try (refine gate_guard (by rfl) ?_; dsimp only)); refine box_event ?hg (N := 4) ?hd (cs := #[.int .i64 0, .int .i64 0, .int .i64 0]) (t := 55) ?hr ?_; (case hd => rfl); (case hg => rfl); (case hr => first | (go_simp; done) | (go_simp; rfl)); intro gb170 hg w17 hbox hb; have n0_ := Aside0.mk (below_step (by repeat (first | (with_reducible first | exact HB.out | apply below_alloc | apply pw_below_drewN | apply below_drew1) | exact HB.out)) hb); have n1_ := Aside0.mk (hbox); have n2_ := Aside0.mk ((by rw [hg]; exact (below_size (by repeat (first | (with_reducible first | exact HB.out | apply below_alloc | apply pw_below_drewN | apply below_drew1) | exact HB.out))) : w.heap.size ≤ gb170)); have n3_ := Aside0.mk ((by rw [hg]; exact (below_size (by repeat (first | (with_reducible first | exact HB.out | apply below_alloc | apply pw_below_drewN | apply below_drew1) | exact HB.out))) : w.heap.size ≤ gb170)); clear HB; have HB := n0_; have BK170 := n1_; have GW170 := n2_; have GE170 := n3_; clear n0_ n1_ n2_ n3_; clear hb hbox hg; have hcz18_0 : w17.cell? ⟨gb170, 0, none⟩ = some (.int .i64 0) := (blk_cell BK170.out 0).trans rfl; have hcz18_1 : w17.cell? ⟨gb170, 1, none⟩ = some (.int .i64 0) := (blk_cell BK170.out 1).trans rfl; have hcz18_2 : w17.cell? ⟨gb170, 2, none⟩ = some (.int .i64 0) := (blk_cell BK170.out 2).trans rfl; have hfz18_0 := blk_frozen BK170.out 0; have hfz18_1 := blk_frozen BK170.out 1; have hfz18_2 := blk_frozen BK170.out 2) | (go_at_call 51; (with_reducible refine (impl_within.calls ((rd_T55 l0 x15_2).f0) 1 1000000 true _ A8.out).mono ?_); rintro e w' ⟨rfl, ⟨nd, rfl⟩⟩; (try first | exact ⟨rfl, _, World.drewN_drewN _ _ _⟩ | exact ⟨rfl, _, Eq.trans (World.drewN_drewN _ _ _) (congrArg (World.drewN _) (Nat.add_assoc _ _ _))⟩)) | (go_at_call 52; (with_reducible refine (impl_areWinds.calls ((rd_T55 l0 x15_2).f1) ((rd_T55 l0 x15_2).f2) true _ A10.out).mono ?_); rintro e w' ⟨rfl, ⟨nd, rfl⟩⟩; (try first | exact ⟨rfl, _, World.drewN_drewN _ _ _⟩ | exact ⟨rfl, _, Eq.trans (World.drewN_drewN _ _ _) (congrArg (World.drewN _) (Nat.add_assoc _ _ _))⟩); have p173 : 0 ≤ ((ji13) : Int) := of_decide_eq_true (by first | (with_reducible assumption) | assumption); have q173 : (ji13) < (l0.length : Int) := of_decide_eq_true (by first | (with_reducible assumption) | assumption); obtain ⟨ad173, e173, hx173_0, hx173_1, hx173_2⟩ := at_T55 HR0.out (ji13) p173 q173; obtain rfl : ad169 = ad173 := (by injection e173); have hn173_0 : ad169.block ≠ gb170 := Nat.ne_of_lt (Nat.lt_of_lt_of_le (by have := World.block_lt_of_cell? _ _ hx173_0; first | rwa [add_block] at this | exact this) GW170.out); have hn173_1 : ad169.block ≠ gb170 := Nat.ne_of_lt (Nat.lt_of_lt_of_le (by have := World.block_lt_of_cell? _ _ hx173_0; first | rwa [add_block] at this | exact this) GW170.out); have hn173_2 : ad169.block ≠ gb170 := Nat.ne_of_lt (Nat.lt_of_lt_of_le (by have := World.block_lt_of_cell? _ _ hx173_0; first | rwa [add_block] at this | exact this) GW170.out); replace hx173_0 := (HB.out.cell (World.block_lt_of_cell? _ _ hx173_0)).trans hx173_0; replace hx173_1 := (HB.out.cell (World.block_lt_of_cell? _ _ hx173_1)).trans hx173_1; replace hx173_2 := (HB.out.cell (World.block_lt_of_cell? _ _ hx173_2)).trans hx173_2; replace hx173_0 := (cell_far (p := ⟨gb170, 0, none⟩) (by first | (rw [add_block]; exact hn173_0) | (show (Addr.add _ _).block ≠ _; rw [add_block]; exact hn173_0) | exact hn173_0) (.int .i64 ((rd_T55 l0 x15_2).f0))).trans hx173_0; replace hx173_1 := (cell_far (p := ⟨gb170, 0, none⟩) (by first | (rw [add_block]; exact hn173_0) | (show (Addr.add _ _).block ≠ _; rw [add_block]; exact hn173_0) | exact hn173_0) (.int .i64 ((rd_T55 l0 x15_2).f0))).trans hx173_1; replace hx173_2 := (cell_far (p := ⟨gb170, 0, none⟩) (by first | (rw [add_block]; exact hn173_0) | (show (Addr.add _ _).block ≠ _; rw [add_block]; exact hn173_0) | exact hn173_0) (.int .i64 ((rd_T55 l0 x15_2).f0))).trans hx173_2; replace hx173_0 := (cell_far (p := ⟨gb170, 1, none⟩) (by first | (rw [add_block]; exact hn173_1) | (show (Addr.add _ _).block ≠ _; rw [add_block]; exact hn173_1) | exact hn173_1) (.int .i64 ((rd_T55 l0 x15_2).f1))).trans hx173_0; replace hx173_1 := (cell_far (p := ⟨gb170, 1, none⟩) (by first | (rw [add_block]; exact hn173_1) | (show (Addr.add _ _).block ≠ _; rw [add_block]; exact hn173_1) | exact hn173_1) (.int .i64 ((rd_T55 l0 x15_2).f1))).trans hx173_1; replace hx173_2 := (cell_far (p := ⟨gb170, 1, none⟩) (by first | (rw [add_block]; exact hn173_1) | (show (Addr.add _ _).block ≠ _; rw [add_block]; exact hn173_1) | exact hn173_1) (.int .i64 ((rd_T55 l0 x15_2).f1))).trans hx173_2; replace hx173_0 := (cell_far (p := ⟨gb170, 2, none⟩) (by first | (rw [add_block]; exact hn173_2) | (show (Addr.add _ _).block ≠ _; rw [add_block]; exact hn173_2) | exact hn173_2) (.int .i64 ((rd_T55 l0 x15_2).f2))).trans hx173_0; replace hx173_1 := (cell_far (p := ⟨gb170, 2, none⟩) (by first | (rw [add_block]; exact hn173_2) | (show (Addr.add _ _).block ≠ _; rw [add_block]; exact hn173_2) | exact hn173_2) (.int .i64 ((rd_T55 l0 x15_2).f2))).trans hx173_1; replace hx173_2 := (cell_far (p := ⟨gb170, 2, none⟩) (by first | (rw [add_block]; exact hn173_2) | (show (Addr.add _ _).block ≠ _; rw [add_block]; exact hn173_2) | exact hn173_2) (.int .i64 ((rd_T55 l0 x15_2).f2))).trans hx173_2; (try have hy173_0 := fun (n_ : Nat) => (show (((((w17.drewN n_).setCell ⟨gb170, 0, none⟩ (.int .i64 ((rd_T55 l0 x15_2).f0))).setCell ⟨gb170, 1, none⟩ (.int .i64 ((rd_T55 l0 x15_2).f1))).setCell ⟨gb170, 2, none⟩ (.int .i64 ((rd_T55 l0 x15_2).f2)))).cell? _ = some _ from hx173_0)); (try have hy173_1 := fun (n_ : Nat) => (show (((((w17.drewN n_).setCell ⟨gb170, 0, none⟩ (.int .i64 ((rd_T55 l0 x15_2).f0))).setCell ⟨gb170, 1, none⟩ (.int .i64 ((rd_T55 l0 x15_2).f1))).setCell ⟨gb170, 2, none⟩ (.int .i64 ((rd_T55 l0 x15_2).f2)))).cell? _ = some _ from hx173_1)); (try have hy173_2 := fun (n_ : Nat) => (show (((((w17.drewN n_).setCell ⟨gb170, 0, none⟩ (.int .i64 ((rd_T55 l0 x15_2).f0))).setCell ⟨gb170, 1, none⟩ (.int .i64 ((rd_T55 l0 x15_2).f1))).setCell ⟨gb170, 2, none⟩ (.int .i64 ((rd_T55 l0 x15_2).f2)))).cell? _ = some _ from hx173_2)); (try have hy173_0_1 := fun (n_ : Nat) => (show (((((w17.setCell ⟨gb170, 0, none⟩ (.int .i64 ((rd_T55 l0 x15_2).f0))).drewN n_).setCell ⟨gb170, 1, none⟩ (.int .i64 ((rd_T55 l0 x15_2).f1))).setCell ⟨gb170, 2, none⟩ (.int .i64 ((rd_T55 l0 x15_2).f2)))).cell? _ = some _ from hx173_0)); (try have hy173_1_1 := fun (n_ : Nat) => (show (((((w17.setCell ⟨gb170, 0, none⟩ (.int .i64 ((rd_T55 l0 x15_2).f0))).drewN n_).setCell ⟨gb170, 1, none⟩ (.int .i64 ((rd_T55 l0 x15_2).f1))).setCell ⟨gb170, 2, none⟩ (.int .i64 ((rd_T55 l0 x15_2).f2)))).cell? _ = some _ from hx173_1)); (try have hy173_2_1 := fun (n_ : Nat) => (show (((((w17.setCell ⟨gb170, 0, none⟩ (.int .i64 ((rd_T55 l0 x15_2).f0))).drewN n_).setCell ⟨gb170, 1, none⟩ (.int .i64 ((rd_T55 l0 x15_2).f1))).setCell ⟨gb170, 2, none⟩ (.int .i64 ((rd_T55 l0 x15_2).f2)))).cell? _ = some _ from hx173_2)); (try have hy173_0_2 := fun (n_ : Nat) => (show (((((w17.setCell ⟨gb170, 0, none⟩ (.int .i64 ((rd_T55 l0 x15_2).f0))).setCell ⟨gb170, 1, none⟩ (.int .i64 ((rd_T55 l0 x15_2).f1))).drewN n_).setCell ⟨gb170, 2, none⟩ (.int .i64 ((rd_T55 l0 x15_2).f2)))).cell? _ = some _ from hx173_0)); (try have hy173_1_2 := fun (n_ : Nat) => (show (((((w17.setCell ⟨gb170, 0, none⟩ (.int .i64 ((rd_T55 l0 x15_2).f0))).setCell ⟨gb170, 1, none⟩ (.int .i64 ((rd_T55 l0 x15_2).f1))).drewN n_).setCell ⟨gb170, 2, none⟩ (.int .i64 ((rd_T55 l0 x15_2).f2)))).cell? _ = some _ from hx173_1)); (try have hy173_2_2 := fun (n_ : Nat) => (show (((((w17.setCell ⟨gb170, 0, none⟩ (.int .i64 ((rd_T55 l0 x15_2).f0))).setCell ⟨gb170, 1, none⟩ (.int .i64 ((rd_T55 l0 x15_2).f1))).drewN n_).setCell ⟨gb170, 2, none⟩ (.int .i64 ((rd_T55 l0 x15_2).f2)))).cell? _ = some _ from hx173_2)); (try have hy173_0_3 := fun (n_ : Nat) => (show (((((w17.setCell ⟨gb170, 0, none⟩ (.int .i64 ((rd_T55 l0 x15_2).f0))).setCell ⟨gb170, 1, none⟩ (.int .i64 ((rd_T55 l0 x15_2).f1))).setCell ⟨gb170, 2, none⟩ (.int .i64 ((rd_T55 l0 x15_2).f2))).drewN n_)).cell? _ = some _ from hx173_0)); (try have hy173_1_3 := fun (n_ : Nat) => (show (((((w17.setCell ⟨gb170, 0, none⟩ (.int .i64 ((rd_T55 l0 x15_2).f0))).setCell ⟨gb170, 1, none⟩ (.int .i64 ((rd_T55 l0 x15_2).f1))).setCell ⟨gb170, 2, none⟩ (.int .i64 ((rd_T55 l0 x15_2).f2))).drewN n_)).cell? _ = some _ from hx173_1)); (try have hy173_2_3 := fun (n_ : Nat) => (show (((((w17.setCell ⟨gb170, 0, none⟩ (.int .i64 ((rd_T55 l0 x15_2).f0))).setCell ⟨gb170, 1, none⟩ (.int .i64 ((rd_T55 l0 x15_2).f1))).setCell ⟨gb170, 2, none⟩ (.int .i64 ((rd_T55 l0 x15_2).f2))).drewN n_)).cell? _ = some _ from hx173_2)); clear hn173_0; clear hn173_1; clear hn173_2; replace p173 := eq_true p173; replace q173 := eq_true q173)); try go_wp2_with (first | ((with_reducible refine gate_dst (N := 4) rfl ?_); (try (refine gate_guard (by rfl) ?_; dsimp only)); refine box_event ?hg (N := 4) ?hd (cs := #[.int .i64 0, .int .i64 0, .int .i64 0]) (t := 55) ?hr ?_; (case hd => rfl); (case hg => rfl); (case hr => first | (go_simp; done) | (go_simp; rfl)); intro gb170 hg w17 hbox hb; have n0_ := Aside0.mk (below_step (by repeat (first | (with_reducible first | exact HB.out | apply below_alloc | apply pw_below_drewN | apply below_drew1) | exact HB.out)) hb); have n1_ := Aside0.mk (hbox); have n2_ := Aside0.mk ((by rw [hg]; exact (below_size (by repeat (first | (with_reducible first | exact HB.out | apply below_alloc | apply pw_below_drewN | apply below_drew1) | exact HB.out))) : w.heap.size ≤ gb170)); have n3_ := Aside0.mk ((by rw [hg]; exact (below_size (by repeat (first | (with_reducible first | exact HB.out | apply below_alloc | apply pw_below_drewN | apply below_drew1) | exact HB.out))) : w.heap.size ≤ gb170)); clear HB; have HB := n0_; have BK170 := n1_; have GW170 := n2_; have GE170 := n3_; clear n0_ n1_ n2_ n3_; clear hb hbox hg; have hcz18_0 : w17.cell? ⟨gb170, 0, none⟩ = some (.int .i64 0) := (blk_cell BK170.out 0).trans rfl; have hcz18_1 : w17.cell? ⟨gb170, 1, none⟩ = some (.int .i64 0) := (blk_cell BK170.out 1).trans rfl; have hcz18_2 : w17.cell? ⟨gb170, 2, none⟩ = some (.int .i64 0) := (blk_cell BK170.out 2).trans rfl; have hfz18_0 := blk_frozen BK170.out 0; have hfz18_1 := blk_frozen BK170.out 1; have hfz18_2 := blk_frozen BK170.out 2) | (go_at_call 51; (with_reducible refine (impl_within.calls ((rd_T55 l0 x15_2).f0) 1 1000000 true _ A8.out).mono ?_); rintro e w' ⟨rfl, ⟨nd, rfl⟩⟩; (try first | exact ⟨rfl, _, World.drewN_drewN _ _ _⟩ | exact ⟨rfl, _, Eq.trans (World.drewN_drewN _ _ _) (congrArg (World.drewN _) (Nat.add_assoc _ _ _))⟩)) | (go_at_call 52; (with_reducible refine (impl_areWinds.calls ((rd_T55 l0 x15_2).f1) ((rd_T55 l0 x15_2).f2) true _ A10.out).mono ?_); rintro e w' ⟨rfl, ⟨nd, rfl⟩⟩; (try first | exact ⟨rfl, _, World.drewN_drewN _ _ _⟩ | exact ⟨rfl, _, Eq.trans (World.drewN_drewN _ _ _) (congrArg (World.drewN _) (Nat.add_assoc _ _ _))⟩); have p173 : 0 ≤ ((ji13) : Int) := of_decide_eq_true (by first | (with_reducible assumption) | assumption); have q173 : (ji13) < (l0.length : Int) := of_decide_eq_true (by first | (with_reducible assumption) | assumption); obtain ⟨ad173, e173, hx173_0, hx173_1, hx173_2⟩ := at_T55 HR0.out (ji13) p173 q173; obtain rfl : ad169 = ad173 := (by injection e173); have hn173_0 : ad169.block ≠ gb170 := Nat.ne_of_lt (Nat.lt_of_lt_of_le (by have := World.block_lt_of_cell? _ _ hx173_0; first | rwa [add_block] at this | exact this) GW170.out); have hn173_1 : ad169.block ≠ gb170 := Nat.ne_of_lt (Nat.lt_of_lt_of_le (by have := World.block_lt_of_cell? _ _ hx173_0; first | rwa [add_block] at this | exact this) GW170.out); have hn173_2 : ad169.block ≠ gb170 := Nat.ne_of_lt (Nat.lt_of_lt_of_le (by have := World.block_lt_of_cell? _ _ hx173_0; first | rwa [add_block] at this | exact this) GW170.out); replace hx173_0 := (HB.out.cell (World.block_lt_of_cell? _ _ hx173_0)).trans hx173_0; replace hx173_1 := (HB.out.cell (World.block_lt_of_cell? _ _ hx173_1)).trans hx173_1; replace hx173_2 := (HB.out.cell (World.block_lt_of_cell? _ _ hx173_2)).trans hx173_2; replace hx173_0 := (cell_far (p := ⟨gb170, 0, none⟩) (by first | (rw [add_block]; exact hn173_0) | (show (Addr.add _ _).block ≠ _; rw [add_block]; exact hn173_0) | exact hn173_0) (.int .i64 ((rd_T55 l0 x15_2).f0))).trans hx173_0; replace hx173_1 := (cell_far (p := ⟨gb170, 0, none⟩) (by first | (rw [add_block]; exact hn173_0) | (show (Addr.add _ _).block ≠ _; rw [add_block]; exact hn173_0) | exact hn173_0) (.int .i64 ((rd_T55 l0 x15_2).f0))).trans hx173_1; replace hx173_2 := (cell_far (p := ⟨gb170, 0, none⟩) (by first | (rw [add_block]; exact hn173_0) | (show (Addr.add _ _).block ≠ _; rw [add_block]; exact hn173_0) | exact hn173_0) (.int .i64 ((rd_T55 l0 x15_2).f0))).trans hx173_2; replace hx173_0 := (cell_far (p := ⟨gb170, 1, none⟩) (by first | (rw [add_block]; exact hn173_1) | (show (Addr.add _ _).block ≠ _; rw [add_block]; exact hn173_1) | exact hn173_1) (.int .i64 ((rd_T55 l0 x15_2).f1))).trans hx173_0; replace hx173_1 := (cell_far (p := ⟨gb170, 1, none⟩) (by first | (rw [add_block]; exact hn173_1) | (show (Addr.add _ _).block ≠ _; rw [add_block]; exact hn173_1) | exact hn173_1) (.int .i64 ((rd_T55 l0 x15_2).f1))).trans hx173_1; replace hx173_2 := (cell_far (p := ⟨gb170, 1, none⟩) (by first | (rw [add_block]; exact hn173_1) | (show (Addr.add _ _).block ≠ _; rw [add_block]; exact hn173_1) | exact hn173_1) (.int .i64 ((rd_T55 l0 x15_2).f1))).trans hx173_2; replace hx173_0 := (cell_far (p := ⟨gb170, 2, none⟩) (by first | (rw [add_block]; exact hn173_2) | (show (Addr.add _ _).block ≠ _; rw [add_block]; exact hn173_2) | exact hn173_2) (.int .i64 ((rd_T55 l0 x15_2).f2))).trans hx173_0; replace hx173_1 := (cell_far (p := ⟨gb170, 2, none⟩) (by first | (rw [add_block]; exact hn173_2) | (show (Addr.add _ _).block ≠ _; rw [add_block]; exact hn173_2) | exact hn173_2) (.int .i64 ((rd_T55 l0 x15_2).f2))).trans hx173_1; replace hx173_2 := (cell_far (p := ⟨gb170, 2, none⟩) (by first | (rw [add_block]; exact hn173_2) | (show (Addr.add _ _).block ≠ _; rw [add_block]; exact hn173_2) | exact hn173_2) (.int .i64 ((rd_T55 l0 x15_2).f2))).trans hx173_2; (try have hy173_0 := fun (n_ : Nat) => (show (((((w17.drewN n_).setCell ⟨gb170, 0, none⟩ (.int .i64 ((rd_T55 l0 x15_2).f0))).setCell ⟨gb170, 1, none⟩ (.int .i64 ((rd_T55 l0 x15_2).f1))).setCell ⟨gb170, 2, none⟩ (.int .i64 ((rd_T55 l0 x15_2).f2)))).cell? _ = some _ from hx173_0)); (try have hy173_1 := fun (n_ : Nat) => (show (((((w17.drewN n_).setCell ⟨gb170, 0, none⟩ (.int .i64 ((rd_T55 l0 x15_2).f0))).setCell ⟨gb170, 1, none⟩ (.int .i64 ((rd_T55 l0 x15_2).f1))).setCell ⟨gb170, 2, none⟩ (.int .i64 ((rd_T55 l0 x15_2).f2)))).cell? _ = some _ from hx173_1)); (try have hy173_2 := fun (n_ : Nat) => (show (((((w17.drewN n_).setCell ⟨gb170, 0, none⟩ (.int .i64 ((rd_T55 l0 x15_2).f0))).setCell ⟨gb170, 1, none⟩ (.int .i64 ((rd_T55 l0 x15_2).f1))).setCell ⟨gb170, 2, none⟩ (.int .i64 ((rd_T55 l0 x15_2).f2)))).cell? _ = some _ from hx173_2)); (try have hy173_0_1 := fun (n_ : Nat) => (show (((((w17.setCell ⟨gb170, 0, none⟩ (.int .i64 ((rd_T55 l0 x15_2).f0))).drewN n_).setCell ⟨gb170, 1, none⟩ (.int .i64 ((rd_T55 l0 x15_2).f1))).setCell ⟨gb170, 2, none⟩ (.int .i64 ((rd_T55 l0 x15_2).f2)))).cell? _ = some _ from hx173_0)); (try have hy173_1_1 := fun (n_ : Nat) => (show (((((w17.setCell ⟨gb170, 0, none⟩ (.int .i64 ((rd_T55 l0 x15_2).f0))).drewN n_).setCell ⟨gb170, 1, none⟩ (.int .i64 ((rd_T55 l0 x15_2).f1))).setCell ⟨gb170, 2, none⟩ (.int .i64 ((rd_T55 l0 x15_2).f2)))).cell? _ = some _ from hx173_1)); (try have hy173_2_1 := fun (n_ : Nat) => (show (((((w17.setCell ⟨gb170, 0, none⟩ (.int .i64 ((rd_T55 l0 x15_2).f0))).drewN n_).setCell ⟨gb170, 1, none⟩ (.int .i64 ((rd_T55 l0 x15_2).f1))).setCell ⟨gb170, 2, none⟩ (.int .i64 ((rd_T55 l0 x15_2).f2)))).cell? _ = some _ from hx173_2)); (try have hy173_0_2 := fun (n_ : Nat) => (show (((((w17.setCell ⟨gb170, 0, none⟩ (.int .i64 ((rd_T55 l0 x15_2).f0))).setCell ⟨gb170, 1, none⟩ (.int .i64 ((rd_T55 l0 x15_2).f1))).drewN n_).setCell ⟨gb170, 2, none⟩ (.int .i64 ((rd_T55 l0 x15_2).f2)))).cell? _ = some _ from hx173_0)); (try have hy173_1_2 := fun (n_ : Nat) => (show (((((w17.setCell ⟨gb170, 0, none⟩ (.int .i64 ((rd_T55 l0 x15_2).f0))).setCell ⟨gb170, 1, none⟩ (.int .i64 ((rd_T55 l0 x15_2).f1))).drewN n_).setCell ⟨gb170, 2, none⟩ (.int .i64 ((rd_T55 l0 x15_2).f2)))).cell? _ = some _ from hx173_1)); (try have hy173_2_2 := fun (n_ : Nat) => (show (((((w17.setCell ⟨gb170, 0, none⟩ (.int .i64 ((rd_T55 l0 x15_2).f0))).setCell ⟨gb170, 1, none⟩ (.int .i64 ((rd_T55 l0 x15_2).f1))).drewN n_).setCell ⟨gb170, 2, none⟩ (.int .i64 ((rd_T55 l0 x15_2).f2)))).cell? _ = some _ from hx173_2)); (try have hy173_0_3 := fun (n_ : Nat) => (show (((((w17.setCell ⟨gb170, 0, none⟩ (.int .i64 ((rd_T55 l0 x15_2).f0))).setCell ⟨gb170, 1, none⟩ (.int .i64 ((rd_T55 l0 x15_2).f1))).setCell ⟨gb170, 2, none⟩ (.int .i64 ((rd_T55 l0 x15_2).f2))).drewN n_)).cell? _ = some _ from hx173_0)); (try have hy173_1_3 := fun (n_ : Nat) => (show (((((w17.setCell ⟨gb170, 0, none⟩ (.int .i64 ((rd_T55 l0 x15_2).f0))).setCell ⟨gb170, 1, none⟩ (.int .i64 ((rd_T55 l0 x15_2).f1))).setCell ⟨gb170, 2, none⟩ (.int .i64 ((rd_T55 l0 x15_2).f2))).drewN n_)).cell? _ = some _ from hx173_1)); (try have hy173_2_3 := fun (n_ : Nat) => (show (((((w17.setCell ⟨gb170, 0, none⟩ (.int .i64 ((rd_T55 l0 x15_2).f0))).setCell ⟨gb170, 1, none⟩ (.int .i64 ((rd_T55 l0 x15_2).f1))).setCell ⟨gb170, 2, none⟩ (.int .i64 ((rd_T55 l0 x15_2).f2))).drewN n_)).cell? _ = some _ from hx173_2)); clear hn173_0; clear hn173_1; clear hn173_2; replace p173 := eq_true p173; replace q173 := eq_true q173)))
                              go_ret
                              exact ⟨by first | rfl | (simp [errW_none, errW_some] <;> rfl) | (simp only [← hji13]; first | rfl | (simp [errW_none, errW_some] <;> rfl)) | (simp [*, errW_none, errW_some] <;> rfl), by repeat (first | (with_reducible first | exact HB.out | apply below_alloc | apply pw_below_drewN | apply below_drew1 | refine below_set ?_ GE170.out) | exact HB.out)⟩
                            · rw [if_neg c16] at H
                              have c16b0 : decide (((rd_T55 l0 x15_2).f0) ≤ ((rd_T55 l0 (ji13)).f0)) = false := decide_eq_false c16
                              clear c16
                              have H' := Aside0.mk H
                              clear H
                              have p169 : 0 ≤ (x15_2 : Int) := of_decide_eq_true (by first | (with_reducible assumption) | assumption)
                              have q169 : x15_2 < (l0.length : Int) := of_decide_eq_true (by first | (with_reducible assumption) | assumption)
                              obtain ⟨ad169, e169, hx169_0, hx169_1, hx169_2⟩ := at_T55 HR0.out x15_2 p169 q169
                              cases e169
                              replace hx169_0 := (HB.out.cell (World.block_lt_of_cell? _ _ hx169_0)).trans hx169_0
                              replace hx169_1 := (HB.out.cell (World.block_lt_of_cell? _ _ hx169_1)).trans hx169_1
                              replace hx169_2 := (HB.out.cell (World.block_lt_of_cell? _ _ hx169_2)).trans hx169_2
                              replace p169 := eq_true p169
                              replace q169 := eq_true q169
                              go_wp2_with (first | ((with_reducible refine gate_dst (N := 4) rfl ?_); (try (refine gate_guard (by rfl) ?_; dsimp only)); refine box_event ?hg (N := 4) ?hd (cs := #[.int .i64 0, .int .i64 0, .int .i64 0]) (t := 55) ?hr ?_; (case hd => rfl); (case hg => rfl); (case hr => first | (go_simp; done) | (go_simp; rfl)); intro gb170 hg w19 hbox hb; have n0_ := Aside0.mk (below_step (by repeat (first | (with_reducible first | exact HB.out | apply below_alloc | apply pw_below_drewN | apply below_drew1) | exact HB.out)) hb); have n1_ := Aside0.mk (hbox); have n2_ := Aside0.mk ((by rw [hg]; exact (below_size (by repeat (first | (with_reducible first | exact HB.out | apply below_alloc | apply pw_below_drewN | apply below_drew1) | exact HB.out))) : w.heap.size ≤ gb170)); have n3_ := Aside0.mk ((by rw [hg]; exact (below_size (by repeat (first | (with_reducible first | exact HB.out | apply below_alloc | apply pw_below_drewN | apply below_drew1) | exact HB.out))) : w.heap.size ≤ gb170)); clear HB; have HB := n0_; have BK170 := n1_; have GW170 := n2_; have GE170 := n3_; clear n0_ n1_ n2_ n3_; clear hb hbox hg; have hcz20_0 : w19.cell? ⟨gb170, 0, none⟩ = some (.int .i64 0) := (blk_cell BK170.out 0).trans rfl; have hcz20_1 : w19.cell? ⟨gb170, 1, none⟩ = some (.int .i64 0) := (blk_cell BK170.out 1).trans rfl; have hcz20_2 : w19.cell? ⟨gb170, 2, none⟩ = some (.int .i64 0) := (blk_cell BK170.out 2).trans rfl; have hfz20_0 := blk_frozen BK170.out 0; have hfz20_1 := blk_frozen BK170.out 1; have hfz20_2 := blk_frozen BK170.out 2) | (go_at_call 51; (with_reducible refine (impl_within.calls ((rd_T55 l0 x15_2).f0) 1 1000000 true _ A8.out).mono ?_); rintro e w' ⟨rfl, ⟨nd, rfl⟩⟩; (try first | exact ⟨rfl, _, World.drewN_drewN _ _ _⟩ | exact ⟨rfl, _, Eq.trans (World.drewN_drewN _ _ _) (congrArg (World.drewN _) (Nat.add_assoc _ _ _))⟩)) | (go_at_call 52; (with_reducible refine (impl_areWinds.calls ((rd_T55 l0 x15_2).f1) ((rd_T55 l0 x15_2).f2) true _ A10.out).mono ?_); rintro e w' ⟨rfl, ⟨nd, rfl⟩⟩; (try first | exact ⟨rfl, _, World.drewN_drewN _ _ _⟩ | exact ⟨rfl, _, Eq.trans (World.drewN_drewN _ _ _) (congrArg (World.drewN _) (Nat.add_assoc _ _ _))⟩); have p173 : 0 ≤ ((ji13) : Int) := of_decide_eq_true (by first | (with_reducible assumption) | assumption); have q173 : (ji13) < (l0.length : Int) := of_decide_eq_true (by first | (with_reducible assumption) | assumption); obtain ⟨ad173, e173, hx173_0, hx173_1, hx173_2⟩ := at_T55 HR0.out (ji13) p173 q173; obtain rfl : ad169 = ad173 := (by injection e173); have hn173_0 : ad169.block ≠ gb170 := Nat.ne_of_lt (Nat.lt_of_lt_of_le (by have := World.block_lt_of_cell? _ _ hx173_0; first | rwa [add_block] at this | exact this) GW170.out); have hn173_1 : ad169.block ≠ gb170 := Nat.ne_of_lt (Nat.lt_of_lt_of_le (by have := World.block_lt_of_cell? _ _ hx173_0; first | rwa [add_block] at this | exact this) GW170.out); have hn173_2 : ad169.block ≠ gb170 := Nat.ne_of_lt (Nat.lt_of_lt_of_le (by have := World.block_lt_of_cell? _ _ hx173_0; first | rwa [add_block] at this | exact this) GW170.out); replace hx173_0 := (HB.out.cell (World.block_lt_of_cell? _ _ hx173_0)).trans hx173_0; replace hx173_1 := (HB.out.cell (World.block_lt_of_cell? _ _ hx173_1)).trans hx173_1; replace hx173_2 := (HB.out.cell (World.block_lt_of_cell? _ _ hx173_2)).trans hx173_2; replace hx173_0 := (cell_far (p := ⟨gb170, 0, none⟩) (by first | (rw [add_block]; exact hn173_0) | (show (Addr.add _ _).block ≠ _; rw [add_block]; exact hn173_0) | exact hn173_0) (.int .i64 ((rd_T55 l0 x15_2).f0))).trans hx173_0; replace hx173_1 := (cell_far (p := ⟨gb170, 0, none⟩) (by first | (rw [add_block]; exact hn173_0) | (show (Addr.add _ _).block ≠ _; rw [add_block]; exact hn173_0) | exact hn173_0) (.int .i64 ((rd_T55 l0 x15_2).f0))).trans hx173_1; replace hx173_2 := (cell_far (p := ⟨gb170, 0, none⟩) (by first | (rw [add_block]; exact hn173_0) | (show (Addr.add _ _).block ≠ _; rw [add_block]; exact hn173_0) | exact hn173_0) (.int .i64 ((rd_T55 l0 x15_2).f0))).trans hx173_2; replace hx173_0 := (cell_far (p := ⟨gb170, 1, none⟩) (by first | (rw [add_block]; exact hn173_1) | (show (Addr.add _ _).block ≠ _; rw [add_block]; exact hn173_1) | exact hn173_1) (.int .i64 ((rd_T55 l0 x15_2).f1))).trans hx173_0; replace hx173_1 := (cell_far (p := ⟨gb170, 1, none⟩) (by first | (rw [add_block]; exact hn173_1) | (show (Addr.add _ _).block ≠ _; rw [add_block]; exact hn173_1) | exact hn173_1) (.int .i64 ((rd_T55 l0 x15_2).f1))).trans hx173_1; replace hx173_2 := (cell_far (p := ⟨gb170, 1, none⟩) (by first | (rw [add_block]; exact hn173_1) | (show (Addr.add _ _).block ≠ _; rw [add_block]; exact hn173_1) | exact hn173_1) (.int .i64 ((rd_T55 l0 x15_2).f1))).trans hx173_2; replace hx173_0 := (cell_far (p := ⟨gb170, 2, none⟩) (by first | (rw [add_block]; exact hn173_2) | (show (Addr.add _ _).block ≠ _; rw [add_block]; exact hn173_2) | exact hn173_2) (.int .i64 ((rd_T55 l0 x15_2).f2))).trans hx173_0; replace hx173_1 := (cell_far (p := ⟨gb170, 2, none⟩) (by first | (rw [add_block]; exact hn173_2) | (show (Addr.add _ _).block ≠ _; rw [add_block]; exact hn173_2) | exact hn173_2) (.int .i64 ((rd_T55 l0 x15_2).f2))).trans hx173_1; replace hx173_2 := (cell_far (p := ⟨gb170, 2, none⟩) (by first | (rw [add_block]; exact hn173_2) | (show (Addr.add _ _).block ≠ _; rw [add_block]; exact hn173_2) | exact hn173_2) (.int .i64 ((rd_T55 l0 x15_2).f2))).trans hx173_2; (try have hy173_0 := fun (n_ : Nat) => (show (((((w19.drewN n_).setCell ⟨gb170, 0, none⟩ (.int .i64 ((rd_T55 l0 x15_2).f0))).setCell ⟨gb170, 1, none⟩ (.int .i64 ((rd_T55 l0 x15_2).f1))).setCell ⟨gb170, 2, none⟩ (.int .i64 ((rd_T55 l0 x15_2).f2)))).cell? _ = some _ from hx173_0)); (try have hy173_1 := fun (n_ : Nat) => (show (((((w19.drewN n_).setCell ⟨gb170, 0, none⟩ (.int .i64 ((rd_T55 l0 x15_2).f0))).setCell ⟨gb170, 1, none⟩ (.int .i64 ((rd_T55 l0 x15_2).f1))).setCell ⟨gb170, 2, none⟩ (.int .i64 ((rd_T55 l0 x15_2).f2)))).cell? _ = some _ from hx173_1)); (try have hy173_2 := fun (n_ : Nat) => (show (((((w19.drewN n_).setCell ⟨gb170, 0, none⟩ (.int .i64 ((rd_T55 l0 x15_2).f0))).setCell ⟨gb170, 1, none⟩ (.int .i64 ((rd_T55 l0 x15_2).f1))).setCell ⟨gb170, 2, none⟩ (.int .i64 ((rd_T55 l0 x15_2).f2)))).cell? _ = some _ from hx173_2)); (try have hy173_0_1 := fun (n_ : Nat) => (show (((((w19.setCell ⟨gb170, 0, none⟩ (.int .i64 ((rd_T55 l0 x15_2).f0))).drewN n_).setCell ⟨gb170, 1, none⟩ (.int .i64 ((rd_T55 l0 x15_2).f1))).setCell ⟨gb170, 2, none⟩ (.int .i64 ((rd_T55 l0 x15_2).f2)))).cell? _ = some _ from hx173_0)); (try have hy173_1_1 := fun (n_ : Nat) => (show (((((w19.setCell ⟨gb170, 0, none⟩ (.int .i64 ((rd_T55 l0 x15_2).f0))).drewN n_).setCell ⟨gb170, 1, none⟩ (.int .i64 ((rd_T55 l0 x15_2).f1))).setCell ⟨gb170, 2, none⟩ (.int .i64 ((rd_T55 l0 x15_2).f2)))).cell? _ = some _ from hx173_1)); (try have hy173_2_1 := fun (n_ : Nat) => (show (((((w19.setCell ⟨gb170, 0, none⟩ (.int .i64 ((rd_T55 l0 x15_2).f0))).drewN n_).setCell ⟨gb170, 1, none⟩ (.int .i64 ((rd_T55 l0 x15_2).f1))).setCell ⟨gb170, 2, none⟩ (.int .i64 ((rd_T55 l0 x15_2).f2)))).cell? _ = some _ from hx173_2)); (try have hy173_0_2 := fun (n_ : Nat) => (show (((((w19.setCell ⟨gb170, 0, none⟩ (.int .i64 ((rd_T55 l0 x15_2).f0))).setCell ⟨gb170, 1, none⟩ (.int .i64 ((rd_T55 l0 x15_2).f1))).drewN n_).setCell ⟨gb170, 2, none⟩ (.int .i64 ((rd_T55 l0 x15_2).f2)))).cell? _ = some _ from hx173_0)); (try have hy173_1_2 := fun (n_ : Nat) => (show (((((w19.setCell ⟨gb170, 0, none⟩ (.int .i64 ((rd_T55 l0 x15_2).f0))).setCell ⟨gb170, 1, none⟩ (.int .i64 ((rd_T55 l0 x15_2).f1))).drewN n_).setCell ⟨gb170, 2, none⟩ (.int .i64 ((rd_T55 l0 x15_2).f2)))).cell? _ = some _ from hx173_1)); (try have hy173_2_2 := fun (n_ : Nat) => (show (((((w19.setCell ⟨gb170, 0, none⟩ (.int .i64 ((rd_T55 l0 x15_2).f0))).setCell ⟨gb170, 1, none⟩ (.int .i64 ((rd_T55 l0 x15_2).f1))).drewN n_).setCell ⟨gb170, 2, none⟩ (.int .i64 ((rd_T55 l0 x15_2).f2)))).cell? _ = some _ from hx173_2)); (try have hy173_0_3 := fun (n_ : Nat) => (show (((((w19.setCell ⟨gb170, 0, none⟩ (.int .i64 ((rd_T55 l0 x15_2).f0))).setCell ⟨gb170, 1, none⟩ (.int .i64 ((rd_T55 l0 x15_2).f1))).setCell ⟨gb170, 2, none⟩ (.int .i64 ((rd_T55 l0 x15_2).f2))).drewN n_)).cell? _ = some _ from hx173_0)); (try have hy173_1_3 := fun (n_ : Nat) => (show (((((w19.setCell ⟨gb170, 0, none⟩ (.int .i64 ((rd_T55 l0 x15_2).f0))).setCell ⟨gb170, 1, none⟩ (.int .i64 ((rd_T55 l0 x15_2).f1))).setCell ⟨gb170, 2, none⟩ (.int .i64 ((rd_T55 l0 x15_2).f2))).drewN n_)).cell? _ = some _ from hx173_1)); (try have hy173_2_3 := fun (n_ : Nat) => (show (((((w19.setCell ⟨gb170, 0, none⟩ (.int .i64 ((rd_T55 l0 x15_2).f0))).setCell ⟨gb170, 1, none⟩ (.int .i64 ((rd_T55 l0 x15_2).f1))).setCell ⟨gb170, 2, none⟩ (.int .i64 ((rd_T55 l0 x15_2).f2))).drewN n_)).cell? _ = some _ from hx173_2)); clear hn173_0; clear hn173_1; clear hn173_2; replace p173 := eq_true p173; replace q173 := eq_true q173))
                              repeat (go_quiet (first | ((with_reducible refine gate_dst (N := 4) rfl ?_); (try (refine gate_guard (by rfl) ?_; dsimp only)); refine box_event ?hg (N := 4) ?hd (cs := #[.int .i64 0, .int .i64 0, .int .i64 0]) (t := 55) ?hr ?_; (case hd => rfl); (case hg => rfl); (case hr => first | (go_simp; done) | (go_simp; rfl)); intro gb170 hg w19 hbox hb; have n0_ := Aside0.mk (below_step (by repeat (first | (with_reducible first | exact HB.out | apply below_alloc | apply pw_below_drewN | apply below_drew1) | exact HB.out)) hb); have n1_ := Aside0.mk (hbox); have n2_ := Aside0.mk ((by rw [hg]; exact (below_size (by repeat (first | (with_reducible first | exact HB.out | apply below_alloc | apply pw_below_drewN | apply below_drew1) | exact HB.out))) : w.heap.size ≤ gb170)); have n3_ := Aside0.mk ((by rw [hg]; exact (below_size (by repeat (first | (with_reducible first | exact HB.out | apply below_alloc | apply pw_below_drewN | apply below_drew1) | exact HB.out))) : w.heap.size ≤ gb170)); clear HB; have HB := n0_; have BK170 := n1_; have GW170 := n2_; have GE170 := n3_; clear n0_ n1_ n2_ n3_; clear hb hbox hg; have hcz20_0 : w19.cell? ⟨gb170, 0, none⟩ = some (.int .i64 0) := (blk_cell BK170.out 0).trans rfl; have hcz20_1 : w19.cell? ⟨gb170, 1, none⟩ = some (.int .i64 0) := (blk_cell BK170.out 1).trans rfl; have hcz20_2 : w19.cell? ⟨gb170, 2, none⟩ = some (.int .i64 0) := (blk_cell BK170.out 2).trans rfl; have hfz20_0 := blk_frozen BK170.out 0; have hfz20_1 := blk_frozen BK170.out 1; have hfz20_2 := blk_frozen BK170.out 2) | (go_at_call 51; (with_reducible refine (impl_within.calls ((rd_T55 l0 x15_2).f0) 1 1000000 true _ A8.out).mono ?_); rintro e w' ⟨rfl, ⟨nd, rfl⟩⟩; (try first | exact ⟨rfl, _, World.drewN_drewN _ _ _⟩ | exact ⟨rfl, _, Eq.trans (World.drewN_drewN _ _ _) (congrArg (World.drewN _) (Nat.add_assoc _ _ _))⟩)) | (go_at_call 52; (with_reducible refine (impl_areWinds.calls ((rd_T55 l0 x15_2).f1) ((rd_T55 l0 x15_2).f2) true _ A10.out).mono ?_); rintro e w' ⟨rfl, ⟨nd, rfl⟩⟩; (try first | exact ⟨rfl, _, World.drewN_drewN _ _ _⟩ | exact ⟨rfl, _, Eq.trans (World.drewN_drewN _ _ _) (congrArg (World.drewN _) (Nat.add_assoc _ _ _))⟩); have p173 : 0 ≤ ((ji13) : Int) := of_decide_eq_true (by first | (with_reducible assumption) | assumption); have q173 : (ji13) < (l0.length : Int) := of_decide_eq_true (by first | (with_reducible assumption) | assumption); obtain ⟨ad173, e173, hx173_0, hx173_1, hx173_2⟩ := at_T55 HR0.out (ji13) p173 q173; obtain rfl : ad169 = ad173 := (by injection e173); have hn173_0 : ad169.block ≠ gb170 := Nat.ne_of_lt (Nat.lt_of_lt_of_le (by have := World.block_lt_of_cell? _ _ hx173_0; first | rwa [add_block] at this | exact this) GW170.out); have hn173_1 : ad169.block ≠ gb170 := Nat.ne_of_lt (Nat.lt_of_lt_of_le (by have := World.block_lt_of_cell? _ _ hx173_0; first | rwa [add_block] at this | exact this) GW170.out); have hn173_2 : ad169.block ≠ gb170 := Nat.ne_of_lt (Nat.lt_of_lt_of_le (by have := World.block_lt_of_cell? _ _ hx173_0; first | rwa [add_block] at this | exact this) GW170.out); replace hx173_0 := (HB.out.cell (World.block_lt_of_cell? _ _ hx173_0)).trans hx173_0; replace hx173_1 := (HB.out.cell (World.block_lt_of_cell? _ _ hx173_1)).trans hx173_1; replace hx173_2 := (HB.out.cell (World.block_lt_of_cell? _ _ hx173_2)).trans hx173_2; replace hx173_0 := (cell_far (p := ⟨gb170, 0, none⟩) (by first | (rw [add_block]; exact hn173_0) | (show (Addr.add _ _).block ≠ _; rw [add_block]; exact hn173_0) | exact hn173_0) (.int .i64 ((rd_T55 l0 x15_2).f0))).trans hx173_0; replace hx173_1 := (cell_far (p := ⟨gb170, 0, none⟩) (by first | (rw [add_block]; exact hn173_0) | (show (Addr.add _ _).block ≠ _; rw [add_block]; exact hn173_0) | exact hn173_0) (.int .i64 ((rd_T55 l0 x15_2).f0))).trans hx173_1; replace hx173_2 := (cell_far (p := ⟨gb170, 0, none⟩) (by first | (rw [add_block]; exact hn173_0) | (show (Addr.add _ _).block ≠ _; rw [add_block]; exact hn173_0) | exact hn173_0) (.int .i64 ((rd_T55 l0 x15_2).f0))).trans hx173_2; replace hx173_0 := (cell_far (p := ⟨gb170, 1, none⟩) (by first | (rw [add_block]; exact hn173_1) | (show (Addr.add _ _).block ≠ _; rw [add_block]; exact hn173_1) | exact hn173_1) (.int .i64 ((rd_T55 l0 x15_2).f1))).trans hx173_0; replace hx173_1 := (cell_far (p := ⟨gb170, 1, none⟩) (by first | (rw [add_block]; exact hn173_1) | (show (Addr.add _ _).block ≠ _; rw [add_block]; exact hn173_1) | exact hn173_1) (.int .i64 ((rd_T55 l0 x15_2).f1))).trans hx173_1; replace hx173_2 := (cell_far (p := ⟨gb170, 1, none⟩) (by first | (rw [add_block]; exact hn173_1) | (show (Addr.add _ _).block ≠ _; rw [add_block]; exact hn173_1) | exact hn173_1) (.int .i64 ((rd_T55 l0 x15_2).f1))).trans hx173_2; replace hx173_0 := (cell_far (p := ⟨gb170, 2, none⟩) (by first | (rw [add_block]; exact hn173_2) | (show (Addr.add _ _).block ≠ _; rw [add_block]; exact hn173_2) | exact hn173_2) (.int .i64 ((rd_T55 l0 x15_2).f2))).trans hx173_0; replace hx173_1 := (cell_far (p := ⟨gb170, 2, none⟩) (by first | (rw [add_block]; exact hn173_2) | (show (Addr.add _ _).block ≠ _; rw [add_block]; exact hn173_2) | exact hn173_2) (.int .i64 ((rd_T55 l0 x15_2).f2))).trans hx173_1; replace hx173_2 := (cell_far (p := ⟨gb170, 2, none⟩) (by first | (rw [add_block]; exact hn173_2) | (show (Addr.add _ _).block ≠ _; rw [add_block]; exact hn173_2) | exact hn173_2) (.int .i64 ((rd_T55 l0 x15_2).f2))).trans hx173_2; (try have hy173_0 := fun (n_ : Nat) => (show (((((w19.drewN n_).setCell ⟨gb170, 0, none⟩ (.int .i64 ((rd_T55 l0 x15_2).f0))).setCell ⟨gb170, 1, none⟩ (.int .i64 ((rd_T55 l0 x15_2).f1))).setCell ⟨gb170, 2, none⟩ (.int .i64 ((rd_T55 l0 x15_2).f2)))).cell? _ = some _ from hx173_0)); (try have hy173_1 := fun (n_ : Nat) => (show (((((w19.drewN n_).setCell ⟨gb170, 0, none⟩ (.int .i64 ((rd_T55 l0 x15_2).f0))).setCell ⟨gb170, 1, none⟩ (.int .i64 ((rd_T55 l0 x15_2).f1))).setCell ⟨gb170, 2, none⟩ (.int .i64 ((rd_T55 l0 x15_2).f2)))).cell? _ = some _ from hx173_1)); (try have hy173_2 := fun (n_ : Nat) => (show (((((w19.drewN n_).setCell ⟨gb170, 0, none⟩ (.int .i64 ((rd_T55 l0 x15_2).f0))).setCell ⟨gb170, 1, none⟩ (.int .i64 ((rd_T55 l0 x15_2).f1))).setCell ⟨gb170, 2, none⟩ (.int .i64 ((rd_T55 l0 x15_2).f2)))).cell? _ = some _ from hx173_2)); (try have hy173_0_1 := fun (n_ : Nat) => (show (((((w19.setCell ⟨gb170, 0, none⟩ (.int .i64 ((rd_T55 l0 x15_2).f0))).drewN n_).setCell ⟨gb170, 1, none⟩ (.int .i64 ((rd_T55 l0 x15_2).f1))).setCell ⟨gb170, 2, none⟩ (.int .i64 ((rd_T55 l0 x15_2).f2)))).cell? _ = some _ from hx173_0)); (try have hy173_1_1 := fun (n_ : Nat) => (show (((((w19.setCell ⟨gb170, 0, none⟩ (.int .i64 ((rd_T55 l0 x15_2).f0))).drewN n_).setCell ⟨gb170, 1, none⟩ (.int .i64 ((rd_T55 l0 x15_2).f1))).setCell ⟨gb170, 2, none⟩ (.int .i64 ((rd_T55 l0 x15_2).f2)))).cell? _ = some _ from hx173_1)); (try have hy173_2_1 := fun (n_ : Nat) => (show (((((w19.setCell ⟨gb170, 0, none⟩ (.int .i64 ((rd_T55 l0 x15_2).f0))).drewN n_).setCell ⟨gb170, 1, none⟩ (.int .i64 ((rd_T55 l0 x15_2).f1))).setCell ⟨gb170, 2, none⟩ (.int .i64 ((rd_T55 l0 x15_2).f2)))).cell? _ = some _ from hx173_2)); (try have hy173_0_2 := fun (n_ : Nat) => (show (((((w19.setCell ⟨gb170, 0, none⟩ (.int .i64 ((rd_T55 l0 x15_2).f0))).setCell ⟨gb170, 1, none⟩ (.int .i64 ((rd_T55 l0 x15_2).f1))).drewN n_).setCell ⟨gb170, 2, none⟩ (.int .i64 ((rd_T55 l0 x15_2).f2)))).cell? _ = some _ from hx173_0)); (try have hy173_1_2 := fun (n_ : Nat) => (show (((((w19.setCell ⟨gb170, 0, none⟩ (.int .i64 ((rd_T55 l0 x15_2).f0))).setCell ⟨gb170, 1, none⟩ (.int .i64 ((rd_T55 l0 x15_2).f1))).drewN n_).setCell ⟨gb170, 2, none⟩ (.int .i64 ((rd_T55 l0 x15_2).f2)))).cell? _ = some _ from hx173_1)); (try have hy173_2_2 := fun (n_ : Nat) => (show (((((w19.setCell ⟨gb170, 0, none⟩ (.int .i64 ((rd_T55 l0 x15_2).f0))).setCell ⟨gb170, 1, none⟩ (.int .i64 ((rd_T55 l0 x15_2).f1))).drewN n_).setCell ⟨gb170, 2, none⟩ (.int .i64 ((rd_T55 l0 x15_2).f2)))).cell? _ = some _ from hx173_2)); (try have hy173_0_3 := fun (n_ : Nat) => (show (((((w19.setCell ⟨gb170, 0, none⟩ (.int .i64 ((rd_T55 l0 x15_2).f0))).setCell ⟨gb170, 1, none⟩ (.int .i64 ((rd_T55 l0 x15_2).f1))).setCell ⟨gb170, 2, none⟩ (.int .i64 ((rd_T55 l0 x15_2).f2))).drewN n_)).cell? _ = some _ from hx173_0)); (try have hy173_1_3 := fun (n_ : Nat) => (show (((((w19.setCell ⟨gb170, 0, none⟩ (.int .i64 ((rd_T55 l0 x15_2).f0))).setCell ⟨gb170, 1, none⟩ (.int .i64 ((rd_T55 l0 x15_2).f1))).setCell ⟨gb170, 2, none⟩ (.int .i64 ((rd_T55 l0 x15_2).f2))).drewN n_)).cell? _ = some _ from hx173_1)); (try have hy173_2_3 := fun (n_ : Nat) => (show (((((w19.setCell ⟨gb170, 0, none⟩ (.int .i64 ((rd_T55 l0 x15_2).f0))).setCell ⟨gb170, 1, none⟩ (.int .i64 ((rd_T55 l0 x15_2).f1))).setCell ⟨gb170, 2, none⟩ (.int .i64 ((rd_T55 l0 x15_2).f2))).drewN n_)).cell? _ = some _ from hx173_2)); clear hn173_0; clear hn173_1; clear hn173_2; replace p173 := eq_true p173; replace q173 := eq_true q173)); try go_wp2_with (first | ((with_reducible refine gate_dst (N := 4) rfl ?_); (try (refine gate_guard (by rfl) ?_; dsimp only)); refine box_event ?hg (N := 4) ?hd (cs := #[.int .i64 0, .int .i64 0, .int .i64 0]) (t := 55) ?hr ?_; (case hd => rfl); (case hg => rfl); (case hr => first | (go_simp; done) | (go_simp; rfl)); intro gb170 hg w19 hbox hb; have n0_ := Aside0.mk (below_step (by repeat (first | (with_reducible first | exact HB.out | apply below_alloc | apply pw_below_drewN | apply below_drew1) | exact HB.out)) hb); have n1_ := Aside0.mk (hbox); have n2_ := Aside0.mk ((by rw [hg]; exact (below_size (by repeat (first | (with_reducible first | exact HB.out | apply below_alloc | apply pw_below_drewN | apply below_drew1) | exact HB.out))) : w.heap.size ≤ gb170)); have n3_ := Aside0.mk ((by rw [hg]; exact (below_size (by repeat (first | (with_reducible first | exact HB.out | apply below_alloc | apply pw_below_drewN | apply below_drew1) | exact HB.out))) : w.heap.size ≤ gb170)); clear HB; have HB := n0_; have BK170 := n1_; have GW170 := n2_; have GE170 := n3_; clear n0_ n1_ n2_ n3_; clear hb hbox hg; have hcz20_0 : w19.cell? ⟨gb170, 0, none⟩ = some (.int .i64 0) := (blk_cell BK170.out 0).trans rfl; have hcz20_1 : w19.cell? ⟨gb170, 1, none⟩ = some (.int .i64 0) := (blk_cell BK170.out 1).trans rfl; have hcz20_2 : w19.cell? ⟨gb170, 2, none⟩ = some (.int .i64 0) := (blk_cell BK170.out 2).trans rfl; have hfz20_0 := blk_frozen BK170.out 0; have hfz20_1 := blk_frozen BK170.out 1; have hfz20_2 := blk_frozen BK170.out 2) | (go_at_call 51; (with_reducible refine (impl_within.calls ((rd_T55 l0 x15_2).f0) 1 1000000 true _ A8.out).mono ?_); rintro e w' ⟨rfl, ⟨nd, rfl⟩⟩; (try first | exact ⟨rfl, _, World.drewN_drewN _ _ _⟩ | exact ⟨rfl, _, Eq.trans (World.drewN_drewN _ _ _) (congrArg (World.drewN _) (Nat.add_assoc _ _ _))⟩)) | (go_at_call 52; (with_reducible refine (impl_areWinds.calls ((rd_T55 l0 x15_2).f1) ((rd_T55 l0 x15_2).f2) true _ A10.out).mono ?_); rintro e w' ⟨rfl, ⟨nd, rfl⟩⟩; (try first | exact ⟨rfl, _, World.drewN_drewN _ _ _⟩ | exact ⟨rfl, _, Eq.trans (World.drewN_drewN _ _ _) (congrArg (World.drewN _) (Nat.add_assoc _ _ _))⟩); have p173 : 0 ≤ ((ji13) : Int) := of_decide_eq_true (by first | (with_reducible assumption) | assumption); have q173 : (ji13) < (l0.length : Int) := of_decide_eq_true (by first | (with_reducible assumption) | assumption); obtain ⟨ad173, e173, hx173_0, hx173_1, hx173_2⟩ := at_T55 HR0.out (ji13) p173 q173; obtain rfl : ad169 = ad173 := (by injection e173); have hn173_0 : ad169.block ≠ gb170 := Nat.ne_of_lt (Nat.lt_of_lt_of_le (by have := World.block_lt_of_cell? _ _ hx173_0; first | rwa [add_block] at this | exact this) GW170.out); have hn173_1 : ad169.block ≠ gb170 := Nat.ne_of_lt (Nat.lt_of_lt_of_le (by have := World.block_lt_of_cell? _ _ hx173_0; first | rwa [add_block] at this | exact this) GW170.out); have hn173_2 : ad169.block ≠ gb170 := Nat.ne_of_lt (Nat.lt_of_lt_of_le (by have := World.block_lt_of_cell? _ _ hx173_0; first | rwa [add_block] at this | exact this) GW170.out); replace hx173_0 := (HB.out.cell (World.block_lt_of_cell? _ _ hx173_0)).trans hx173_0; replace hx173_1 := (HB.out.cell (World.block_lt_of_cell? _ _ hx173_1)).trans hx173_1; replace hx173_2 := (HB.out.cell (World.block_lt_of_cell? _ _ hx173_2)).trans hx173_2; replace hx173_0 := (cell_far (p := ⟨gb170, 0, none⟩) (by first | (rw [add_block]; exact hn173_0) | (show (Addr.add _ _).block ≠ _; rw [add_block]; exact hn173_0) | exact hn173_0) (.int .i64 ((rd_T55 l0 x15_2).f0))).trans hx173_0; replace hx173_1 := (cell_far (p := ⟨gb170, 0, none⟩) (by first | (rw [add_block]; exact hn173_0) | (show (Addr.add _ _).block ≠ _; rw [add_block]; exact hn173_0) | exact hn173_0) (.int .i64 ((rd_T55 l0 x15_2).f0))).trans hx173_1; replace hx173_2 := (cell_far (p := ⟨gb170, 0, none⟩) (by first | (rw [add_block]; exact hn173_0) | (show (Addr.add _ _).block ≠ _; rw [add_block]; exact hn173_0) | exact hn173_0) (.int .i64 ((rd_T55 l0 x15_2).f0))).trans hx173_2; replace hx173_0 := (cell_far (p := ⟨gb170, 1, none⟩) (by first | (rw [add_block]; exact hn173_1) | (show (Addr.add _ _).block ≠ _; rw [add_block]; exact hn173_1) | exact hn173_1) (.int .i64 ((rd_T55 l0 x15_2).f1))).trans hx173_0; replace hx173_1 := (cell_far (p := ⟨gb170, 1, none⟩) (by first | (rw [add_block]; exact hn173_1) | (show (Addr.add _ _).block ≠ _; rw [add_block]; exact hn173_1) | exact hn173_1) (.int .i64 ((rd_T55 l0 x15_2).f1))).trans hx173_1; replace hx173_2 := (cell_far (p := ⟨gb170, 1, none⟩) (by first | (rw [add_block]; exact hn173_1) | (show (Addr.add _ _).block ≠ _; rw [add_block]; exact hn173_1) | exact hn173_1) (.int .i64 ((rd_T55 l0 x15_2).f1))).trans hx173_2; replace hx173_0 := (cell_far (p := ⟨gb170, 2, none⟩) (by first | (rw [add_block]; exact hn173_2) | (show (Addr.add _ _).block ≠ _; rw [add_block]; exact hn173_2) | exact hn173_2) (.int .i64 ((rd_T55 l0 x15_2).f2))).trans hx173_0; replace hx173_1 := (cell_far (p := ⟨gb170, 2, none⟩) (by first | (rw [add_block]; exact hn173_2) | (show (Addr.add _ _).block ≠ _; rw [add_block]; exact hn173_2) | exact hn173_2) (.int .i64 ((rd_T55 l0 x15_2).f2))).trans hx173_1; replace hx173_2 := (cell_far (p := ⟨gb170, 2, none⟩) (by first | (rw [add_block]; exact hn173_2) | (show (Addr.add _ _).block ≠ _; rw [add_block]; exact hn173_2) | exact hn173_2) (.int .i64 ((rd_T55 l0 x15_2).f2))).trans hx173_2; (try have hy173_0 := fun (n_ : Nat) => (show (((((w19.drewN n_).setCell ⟨gb170, 0, none⟩ (.int .i64 ((rd_T55 l0 x15_2).f0))).setCell ⟨gb170, 1, none⟩ (.int .i64 ((rd_T55 l0 x15_2).f1))).setCell ⟨gb170, 2, none⟩ (.int .i64 ((rd_T55 l0 x15_2).f2)))).cell? _ = some _ from hx173_0)); (try have hy173_1 := fun (n_ : Nat) => (show (((((w19.drewN n_).setCell ⟨gb170, 0, none⟩ (.int .i64 ((rd_T55 l0 x15_2).f0))).setCell ⟨gb170, 1, none⟩ (.int .i64 ((rd_T55 l0 x15_2).f1))).setCell ⟨gb170, 2, none⟩ (.int .i64 ((rd_T55 l0 x15_2).f2)))).cell? _ = some _ from hx173_1)); (try have hy173_2 := fun (n_ : Nat) => (show (((((w19.drewN n_).setCell ⟨gb170, 0, none⟩ (.int .i64 ((rd_T55 l0 x15_2).f0))).setCell ⟨gb170, 1, none⟩ (.int .i64 ((rd_T55 l0 x15_2).f1))).setCell ⟨gb170, 2, none⟩ (.int .i64 ((rd_T55 l0 x15_2).f2)))).cell? _ = some _ from hx173_2)); (try have hy173_0_1 := fun (n_ : Nat) => (show (((((w19.setCell ⟨gb170, 0, none⟩ (.int .i64 ((rd_T55 l0 x15_2).f0))).drewN n_).setCell ⟨gb170, 1, none⟩ (.int .i64 ((rd_T55 l0 x15_2).f1))).setCell ⟨gb170, 2, none⟩ (.int .i64 ((rd_T55 l0 x15_2).f2)))).cell? _ = some _ from hx173_0)); (try have hy173_1_1 := fun (n_ : Nat) => (show (((((w19.setCell ⟨gb170, 0, none⟩ (.int .i64 ((rd_T55 l0 x15_2).f0))).drewN n_).setCell ⟨gb170, 1, none⟩ (.int .i64 ((rd_T55 l0 x15_2).f1))).setCell ⟨gb170, 2, none⟩ (.int .i64 ((rd_T55 l0 x15_2).f2)))).cell? _ = some _ from hx173_1)); (try have hy173_2_1 := fun (n_ : Nat) => (show (((((w19.setCell ⟨gb170, 0, none⟩ (.int .i64 ((rd_T55 l0 x15_2).f0))).drewN n_).setCell ⟨gb170, 1, none⟩ (.int .i64 ((rd_T55 l0 x15_2).f1))).setCell ⟨gb170, 2, none⟩ (.int .i64 ((rd_T55 l0 x15_2).f2)))).cell? _ = some _ from hx173_2)); (try have hy173_0_2 := fun (n_ : Nat) => (show (((((w19.setCell ⟨gb170, 0, none⟩ (.int .i64 ((rd_T55 l0 x15_2).f0))).setCell ⟨gb170, 1, none⟩ (.int .i64 ((rd_T55 l0 x15_2).f1))).drewN n_).setCell ⟨gb170, 2, none⟩ (.int .i64 ((rd_T55 l0 x15_2).f2)))).cell? _ = some _ from hx173_0)); (try have hy173_1_2 := fun (n_ : Nat) => (show (((((w19.setCell ⟨gb170, 0, none⟩ (.int .i64 ((rd_T55 l0 x15_2).f0))).setCell ⟨gb170, 1, none⟩ (.int .i64 ((rd_T55 l0 x15_2).f1))).drewN n_).setCell ⟨gb170, 2, none⟩ (.int .i64 ((rd_T55 l0 x15_2).f2)))).cell? _ = some _ from hx173_1)); (try have hy173_2_2 := fun (n_ : Nat) => (show (((((w19.setCell ⟨gb170, 0, none⟩ (.int .i64 ((rd_T55 l0 x15_2).f0))).setCell ⟨gb170, 1, none⟩ (.int .i64 ((rd_T55 l0 x15_2).f1))).drewN n_).setCell ⟨gb170, 2, none⟩ (.int .i64 ((rd_T55 l0 x15_2).f2)))).cell? _ = some _ from hx173_2)); (try have hy173_0_3 := fun (n_ : Nat) => (show (((((w19.setCell ⟨gb170, 0, none⟩ (.int .i64 ((rd_T55 l0 x15_2).f0))).setCell ⟨gb170, 1, none⟩ (.int .i64 ((rd_T55 l0 x15_2).f1))).setCell ⟨gb170, 2, none⟩ (.int .i64 ((rd_T55 l0 x15_2).f2))).drewN n_)).cell? _ = some _ from hx173_0)); (try have hy173_1_3 := fun (n_ : Nat) => (show (((((w19.setCell ⟨gb170, 0, none⟩ (.int .i64 ((rd_T55 l0 x15_2).f0))).setCell ⟨gb170, 1, none⟩ (.int .i64 ((rd_T55 l0 x15_2).f1))).setCell ⟨gb170, 2, none⟩ (.int .i64 ((rd_T55 l0 x15_2).f2))).drewN n_)).cell? _ = some _ from hx173_1)); (try have hy173_2_3 := fun (n_ : Nat) => (show (((((w19.setCell ⟨gb170, 0, none⟩ (.int .i64 ((rd_T55 l0 x15_2).f0))).setCell ⟨gb170, 1, none⟩ (.int .i64 ((rd_T55 l0 x15_2).f1))).setCell ⟨gb170, 2, none⟩ (.int .i64 ((rd_T55 l0 x15_2).f2))).drewN n_)).cell? _ = some _ from hx173_2)); clear hn173_0; clear hn173_1; clear hn173_2; replace p173 := eq_true p173; replace q173 := eq_true q173)))
                              go_roundg k2
                              case measure => have := HJ1.out; have := HK2.out; omega
                              case rel => exact ⟨(wrap64 (x15_2 + 1)), (by first | rfl | (simp; done) | (simp [*]; done)), (by first | exact H' | (simp only [hji13]; exact H') | (have H2_ := H'; simp only [← hji13] at H2_; exact H2_)), ⟨by have := HJ1.out; have := HK2.out; omega⟩, ⟨by repeat (first | (with_reducible first | exact HB.out | apply below_alloc | apply pw_below_drewN | apply below_drew1 | refine below_set ?_ GE170.out) | exact HB.out)⟩⟩
                          · rw [if_neg c15] at H
                            exact absurd H (by simp)
                        · rw [if_neg c14] at H
                          exact absurd H (by simp)
                      · rw [if_neg c12] at H
                        have c12b0 : decide (0 < x15_2) = false := decide_eq_false c12
                        clear c12
                        have H' := Aside0.mk H
                        clear H
                        have p169 : 0 ≤ (x15_2 : Int) := of_decide_eq_true (by first | (with_reducible assumption) | assumption)
                        have q169 : x15_2 < (l0.length : Int) := of_decide_eq_true (by first | (with_reducible assumption) | assumption)
                        obtain ⟨ad169, e169, hx169_0, hx169_1, hx169_2⟩ := at_T55 HR0.out x15_2 p169 q169
                        cases e169
                        replace hx169_0 := (HB.out.cell (World.block_lt_of_cell? _ _ hx169_0)).trans hx169_0
                        replace hx169_1 := (HB.out.cell (World.block_lt_of_cell? _ _ hx169_1)).trans hx169_1
                        replace hx169_2 := (HB.out.cell (World.block_lt_of_cell? _ _ hx169_2)).trans hx169_2
                        replace p169 := eq_true p169
                        replace q169 := eq_true q169
                        go_wp2_with (first | ((with_reducible refine gate_dst (N := 4) rfl ?_); (try (refine gate_guard (by rfl) ?_; dsimp only)); refine box_event ?hg (N := 4) ?hd (cs := #[.int .i64 0, .int .i64 0, .int .i64 0]) (t := 55) ?hr ?_; (case hd => rfl); (case hg => rfl); (case hr => first | (go_simp; done) | (go_simp; rfl)); intro gb170 hg w21 hbox hb; have n0_ := Aside0.mk (below_step (by repeat (first | (with_reducible first | exact HB.out | apply below_alloc | apply pw_below_drewN | apply below_drew1) | exact HB.out)) hb); have n1_ := Aside0.mk (hbox); have n2_ := Aside0.mk ((by rw [hg]; exact (below_size (by repeat (first | (with_reducible first | exact HB.out | apply below_alloc | apply pw_below_drewN | apply below_drew1) | exact HB.out))) : w.heap.size ≤ gb170)); have n3_ := Aside0.mk ((by rw [hg]; exact (below_size (by repeat (first | (with_reducible first | exact HB.out | apply below_alloc | apply pw_below_drewN | apply below_drew1) | exact HB.out))) : w.heap.size ≤ gb170)); clear HB; have HB := n0_; have BK170 := n1_; have GW170 := n2_; have GE170 := n3_; clear n0_ n1_ n2_ n3_; clear hb hbox hg; have hcz22_0 : w21.cell? ⟨gb170, 0, none⟩ = some (.int .i64 0) := (blk_cell BK170.out 0).trans rfl; have hcz22_1 : w21.cell? ⟨gb170, 1, none⟩ = some (.int .i64 0) := (blk_cell BK170.out 1).trans rfl; have hcz22_2 : w21.cell? ⟨gb170, 2, none⟩ = some (.int .i64 0) := (blk_cell BK170.out 2).trans rfl; have hfz22_0 := blk_frozen BK170.out 0; have hfz22_1 := blk_frozen BK170.out 1; have hfz22_2 := blk_frozen BK170.out 2) | (go_at_call 51; (with_reducible refine (impl_within.calls ((rd_T55 l0 x15_2).f0) 1 1000000 true _ A8.out).mono ?_); rintro e w' ⟨rfl, ⟨nd, rfl⟩⟩; (try first | exact ⟨rfl, _, World.drewN_drewN _ _ _⟩ | exact ⟨rfl, _, Eq.trans (World.drewN_drewN _ _ _) (congrArg (World.drewN _) (Nat.add_assoc _ _ _))⟩)) | (go_at_call 52; (with_reducible refine (impl_areWinds.calls ((rd_T55 l0 x15_2).f1) ((rd_T55 l0 x15_2).f2) true _ A10.out).mono ?_); rintro e w' ⟨rfl, ⟨nd, rfl⟩⟩; (try first | exact ⟨rfl, _, World.drewN_drewN _ _ _⟩ | exact ⟨rfl, _, Eq.trans (World.drewN_drewN _ _ _) (congrArg (World.drewN _) (Nat.add_assoc _ _ _))⟩)))
                        repeat (go_quiet (first | ((with_reducible refine gate_dst (N := 4) rfl ?_); (try (refine gate_guard (by rfl) ?_; dsimp only)); refine box_event ?hg (N := 4) ?hd (cs := #[.int .i64 0, .int .i64 0, .int .i64 0]) (t := 55) ?hr ?_; (case hd => rfl); (case hg => rfl); (case hr => first | (go_simp; done) | (go_simp; rfl)); intro gb170 hg w21 hbox hb; have n0_ := Aside0.mk (below_step (by repeat (first | (with_reducible first | exact HB.out | apply below_alloc | apply pw_below_drewN | apply below_drew1) | exact HB.out)) hb); have n1_ := Aside0.mk (hbox); have n2_ := Aside0.mk ((by rw [hg]; exact (below_size (by repeat (first | (with_reducible first | exact HB.out | apply below_alloc | apply pw_below_drewN | apply below_drew1) | exact HB.out))) : w.heap.size ≤ gb170)); have n3_ := Aside0.mk ((by rw [hg]; exact (below_size (by repeat (first | (with_reducible first | exact HB.out | apply below_alloc | apply pw_below_drewN | apply below_drew1) | exact HB.out))) : w.heap.size ≤ gb170)); clear HB; have HB := n0_; have BK170 := n1_; have GW170 := n2_; have GE170 := n3_; clear n0_ n1_ n2_ n3_; clear hb hbox hg; have hcz22_0 : w21.cell? ⟨gb170, 0, none⟩ = some (.int .i64 0) := (blk_cell BK170.out 0).trans rfl; have hcz22_1 : w21.cell? ⟨gb170, 1, none⟩ = some (.int .i64 0) := (blk_cell BK170.out 1).trans rfl; have hcz22_2 : w21.cell? ⟨gb170, 2, none⟩ = some (.int .i64 0) := (blk_cell BK170.out 2).trans rfl; have hfz22_0 := blk_frozen BK170.out 0; have hfz22_1 := blk_frozen BK170.out 1; have hfz22_2 := blk_frozen BK170.out 2) | (go_at_call 51; (with_reducible refine (impl_within.calls ((rd_T55 l0 x15_2).f0) 1 1000000 true _ A8.out).mono ?_); rintro e w' ⟨rfl, ⟨nd, rfl⟩⟩; (try first | exact ⟨rfl, _, World.drewN_drewN _ _ _⟩ | exact ⟨rfl, _, Eq.trans (World.drewN_drewN _ _ _) (congrArg (World.drewN _) (Nat.add_assoc _ _ _))⟩)) | (go_at_call 52; (with_reducible refine (impl_areWinds.calls ((rd_T55 l0 x15_2).f1) ((rd_T55 l0 x15_2).f2) true _ A10.out).mono ?_); rintro e w' ⟨rfl, ⟨nd, rfl⟩⟩; (try first | exact ⟨rfl, _, World.drewN_drewN _ _ _⟩ | exact ⟨rfl, _, Eq.trans (World.drewN_drewN _ _ _) (congrArg (World.drewN _) (Nat.add_assoc _ _ _))⟩))); try go_wp2_with (first | ((with_reducible refine gate_dst (N := 4) rfl ?_); (try (refine gate_guard (by rfl) ?_; dsimp only)); refine box_event ?hg (N := 4) ?hd (cs := #[.int .i64 0, .int .i64 0, .int .i64 0]) (t := 55) ?hr ?_; (case hd => rfl); (case hg => rfl); (case hr => first | (go_simp; done) | (go_simp; rfl)); intro gb170 hg w21 hbox hb; have n0_ := Aside0.mk (below_step (by repeat (first | (with_reducible first | exact HB.out | apply below_alloc | apply pw_below_drewN | apply below_drew1) | exact HB.out)) hb); have n1_ := Aside0.mk (hbox); have n2_ := Aside0.mk ((by rw [hg]; exact (below_size (by repeat (first | (with_reducible first | exact HB.out | apply below_alloc | apply pw_below_drewN | apply below_drew1) | exact HB.out))) : w.heap.size ≤ gb170)); have n3_ := Aside0.mk ((by rw [hg]; exact (below_size (by repeat (first | (with_reducible first | exact HB.out | apply below_alloc | apply pw_below_drewN | apply below_drew1) | exact HB.out))) : w.heap.size ≤ gb170)); clear HB; have HB := n0_; have BK170 := n1_; have GW170 := n2_; have GE170 := n3_; clear n0_ n1_ n2_ n3_; clear hb hbox hg; have hcz22_0 : w21.cell? ⟨gb170, 0, none⟩ = some (.int .i64 0) := (blk_cell BK170.out 0).trans rfl; have hcz22_1 : w21.cell? ⟨gb170, 1, none⟩ = some (.int .i64 0) := (blk_cell BK170.out 1).trans rfl; have hcz22_2 : w21.cell? ⟨gb170, 2, none⟩ = some (.int .i64 0) := (blk_cell BK170.out 2).trans rfl; have hfz22_0 := blk_frozen BK170.out 0; have hfz22_1 := blk_frozen BK170.out 1; have hfz22_2 := blk_frozen BK170.out 2) | (go_at_call 51; (with_reducible refine (impl_within.calls ((rd_T55 l0 x15_2).f0) 1 1000000 true _ A8.out).mono ?_); rintro e w' ⟨rfl, ⟨nd, rfl⟩⟩; (try first | exact ⟨rfl, _, World.drewN_drewN _ _ _⟩ | exact ⟨rfl, _, Eq.trans (World.drewN_drewN _ _ _) (congrArg (World.drewN _) (Nat.add_assoc _ _ _))⟩)) | (go_at_call 52; (with_reducible refine (impl_areWinds.calls ((rd_T55 l0 x15_2).f1) ((rd_T55 l0 x15_2).f2) true _ A10.out).mono ?_); rintro e w' ⟨rfl, ⟨nd, rfl⟩⟩; (try first | exact ⟨rfl, _, World.drewN_drewN _ _ _⟩ | exact ⟨rfl, _, Eq.trans (World.drewN_drewN _ _ _) (congrArg (World.drewN _) (Nat.add_assoc _ _ _))⟩))))
                        go_roundg k2
                        case measure => have := HJ1.out; have := HK2.out; omega
                        case rel => exact ⟨(wrap64 (x15_2 + 1)), (by first | rfl | (simp; done) | (simp [*]; done)), H', ⟨by have := HJ1.out; have := HK2.out; omega⟩, ⟨by repeat (first | (with_reducible first | exact HB.out | apply below_alloc | apply pw_below_drewN | apply below_drew1 | refine below_set ?_ GE170.out) | exact HB.out)⟩⟩
                    · replace c11 := Bool.eq_false_iff.mpr c11
                      subst c11
                      have H1 : (some false) = some r := by rw [if_neg (show ¬ (false = true) by decide)] at H; exact H
                      clear H
                      have H := H1
                      clear H1
                      obtain rfl := Option.some.inj H
                      simp only [Option.some.injEq, Prod.mk.injEq] at H
                      obtain ⟨rfl⟩ := H
                      have p169 : 0 ≤ (x15_2 : Int) := of_decide_eq_true (by first | (with_reducible assumption) | assumption)
                      have q169 : x15_2 < (l0.length : Int) := of_decide_eq_true (by first | (with_reducible assumption) | assumption)
                      obtain ⟨ad169, e169, hx169_0, hx169_1, hx169_2⟩ := at_T55 HR0.out x15_2 p169 q169
                      cases e169
                      replace hx169_0 := (HB.out.cell (World.block_lt_of_cell? _ _ hx169_0)).trans hx169_0
                      replace hx169_1 := (HB.out.cell (World.block_lt_of_cell? _ _ hx169_1)).trans hx169_1
                      replace hx169_2 := (HB.out.cell (World.block_lt_of_cell? _ _ hx169_2)).trans hx169_2
                      replace p169 := eq_true p169
                      replace q169 := eq_true q169
                      go_wp2_with (first | ((with_reducible refine gate_dst (N := 4) rfl ?_); (try (refine gate_guard (by rfl) ?_; dsimp only)); refine box_event ?hg (N := 4) ?hd (cs := #[.int .i64 0, .int .i64 0, .int .i64 0]) (t := 55) ?hr ?_; (case hd => rfl); (case hg => rfl); (case hr => first | (go_simp; done) | (go_simp; rfl)); intro gb170 hg w23 hbox hb; have n0_ := Aside0.mk (below_step (by repeat (first | (with_reducible first | exact HB.out | apply below_alloc | apply pw_below_drewN | apply below_drew1) | exact HB.out)) hb); have n1_ := Aside0.mk (hbox); have n2_ := Aside0.mk ((by rw [hg]; exact (below_size (by repeat (first | (with_reducible first | exact HB.out | apply below_alloc | apply pw_below_drewN | apply below_drew1) | exact HB.out))) : w.heap.size ≤ gb170)); have n3_ := Aside0.mk ((by rw [hg]; exact (below_size (by repeat (first | (with_reducible first | exact HB.out | apply below_alloc | apply pw_below_drewN | apply below_drew1) | exact HB.out))) : w.heap.size ≤ gb170)); clear HB; have HB := n0_; have BK170 := n1_; have GW170 := n2_; have GE170 := n3_; clear n0_ n1_ n2_ n3_; clear hb hbox hg; have hcz24_0 : w23.cell? ⟨gb170, 0, none⟩ = some (.int .i64 0) := (blk_cell BK170.out 0).trans rfl; have hcz24_1 : w23.cell? ⟨gb170, 1, none⟩ = some (.int .i64 0) := (blk_cell BK170.out 1).trans rfl; have hcz24_2 : w23.cell? ⟨gb170, 2, none⟩ = some (.int .i64 0) := (blk_cell BK170.out 2).trans rfl; have hfz24_0 := blk_frozen BK170.out 0; have hfz24_1 := blk_frozen BK170.out 1; have hfz24_2 := blk_frozen BK170.out 2) | (go_at_call 51; (with_reducible refine (impl_within.calls ((rd_T55 l0 x15_2).f0) 1 1000000 true _ A8.out).mono ?_); rintro e w' ⟨rfl, ⟨nd, rfl⟩⟩; (try first | exact ⟨rfl, _, World.drewN_drewN _ _ _⟩ | exact ⟨rfl, _, Eq.trans (World.drewN_drewN _ _ _) (congrArg (World.drewN _) (Nat.add_assoc _ _ _))⟩)) | (go_at_call 52; (with_reducible refine (impl_areWinds.calls ((rd_T55 l0 x15_2).f1) ((rd_T55 l0 x15_2).f2) false _ A10.out).mono ?_); rintro e w' ⟨rfl, ⟨nd, rfl⟩⟩; (try first | exact ⟨rfl, _, World.drewN_drewN _ _ _⟩ | exact ⟨rfl, _, Eq.trans (World.drewN_drewN _ _ _) (congrArg (World.drewN _) (Nat.add_assoc _ _ _))⟩)))
                      repeat (go_quiet (first | ((with_reducible refine gate_dst (N := 4) rfl ?_); (try (refine gate_guard (by rfl) ?_; dsimp only)); refine box_event ?hg (N := 4) ?hd (cs := #[.int .i64 0, .int .i64 0, .int .i64 0]) (t := 55) ?hr ?_; (case hd => rfl); (case hg => rfl); (case hr => first | (go_simp; done) | (go_simp; rfl)); intro gb170 hg w23 hbox hb; have n0_ := Aside0.mk (below_step (by repeat (first | (with_reducible first | exact HB.out | apply below_alloc | apply pw_below_drewN | apply below_drew1) | exact HB.out)) hb); have n1_ := Aside0.mk (hbox); have n2_ := Aside0.mk ((by rw [hg]; exact (below_size (by repeat (first | (with_reducible first | exact HB.out | apply below_alloc | apply pw_below_drewN | apply below_drew1) | exact HB.out))) : w.heap.size ≤ gb170)); have n3_ := Aside0.mk ((by rw [hg]; exact (below_size (by repeat (first | (with_reducible first | exact HB.out | apply below_alloc | apply pw_below_drewN | apply below_drew1) | exact HB.out))) : w.heap.size ≤ gb170)); clear HB; have HB := n0_; have BK170 := n1_; have GW170 := n2_; have GE170 := n3_; clear n0_ n1_ n2_ n3_; clear hb hbox hg; have hcz24_0 : w23.cell? ⟨gb170, 0, none⟩ = some (.int .i64 0) := (blk_cell BK170.out 0).trans rfl; have hcz24_1 : w23.cell? ⟨gb170, 1, none⟩ = some (.int .i64 0) := (blk_cell BK170.out 1).trans rfl; have hcz24_2 : w23.cell? ⟨gb170, 2, none⟩ = some (.int .i64 0) := (blk_cell BK170.out 2).trans rfl; have hfz24_0 := blk_frozen BK170.out 0; have hfz24_1 := blk_frozen BK170.out 1; have hfz24_2 := blk_frozen BK170.out 2) | (go_at_call 51; (with_reducible refine (impl_within.calls ((rd_T55 l0 x15_2).f0) 1 1000000 true _ A8.out).mono ?_); rintro e w' ⟨rfl, ⟨nd, rfl⟩⟩; (try first | exact ⟨rfl, _, World.drewN_drewN _ _ _⟩ | exact ⟨rfl, _, Eq.trans (World.drewN_drewN _ _ _) (congrArg (World.drewN _) (Nat.add_assoc _ _ _))⟩)) | (go_at_call 52; (with_reducible refine (impl_areWinds.calls ((rd_T55 l0 x15_2).f1) ((rd_T55 l0 x15_2).f2) false _ A10.out).mono ?_); rintro e w' ⟨rfl, ⟨nd, rfl⟩⟩; (try first | exact ⟨rfl, _, World.drewN_drewN _ _ _⟩ | exact ⟨rfl, _, Eq.trans (World.drewN_drewN _ _ _) (congrArg (World.drewN _) (Nat.add_assoc _ _ _))⟩))); try go_wp2_with (first | ((with_reducible refine gate_dst (N := 4) rfl ?_); (try (refine gate_guard (by rfl) ?_; dsimp only)); refine box_event ?hg (N := 4) ?hd (cs := #[.int .i64 0, .int .i64 0, .int .i64 0]) (t := 55) ?hr ?_; (case hd => rfl); (case hg => rfl); (case hr => first | (go_simp; done) | (go_simp; rfl)); intro gb170 hg w23 hbox hb; have n0_ := Aside0.mk (below_step (by repeat (first | (with_reducible first | exact HB.out | apply below_alloc | apply pw_below_drewN | apply below_drew1) | exact HB.out)) hb); have n1_ := Aside0.mk (hbox); have n2_ := Aside0.mk ((by rw [hg]; exact (below_size (by repeat (first | (with_reducible first | exact HB.out | apply below_alloc | apply pw_below_drewN | apply below_drew1) | exact HB.out))) : w.heap.size ≤ gb170)); have n3_ := Aside0.mk ((by rw [hg]; exact (below_size (by repeat (first | (with_reducible first | exact HB.out | apply below_alloc | apply pw_below_drewN | apply below_drew1) | exact HB.out))) : w.heap.size ≤ gb170)); clear HB; have HB := n0_; have BK170 := n1_; have GW170 := n2_; have GE170 := n3_; clear n0_ n1_ n2_ n3_; clear hb hbox hg; have hcz24_0 : w23.cell? ⟨gb170, 0, none⟩ = some (.int .i64 0) := (blk_cell BK170.out 0).trans rfl; have hcz24_1 : w23.cell? ⟨gb170, 1, none⟩ = some (.int .i64 0) := (blk_cell BK170.out 1).trans rfl; have hcz24_2 : w23.cell? ⟨gb170, 2, none⟩ = some (.int .i64 0) := (blk_cell BK170.out 2).trans rfl; have hfz24_0 := blk_frozen BK170.out 0; have hfz24_1 := blk_frozen BK170.out 1; have hfz24_2 := blk_frozen BK170.out 2) | (go_at_call 51; (with_reducible refine (impl_within.calls ((rd_T55 l0 x15_2).f0) 1 1000000 true _ A8.out).mono ?_); rintro e w' ⟨rfl, ⟨nd, rfl⟩⟩; (try first | exact ⟨rfl, _, World.drewN_drewN _ _ _⟩ | exact ⟨rfl, _, Eq.trans (World.drewN_drewN _ _ _) (congrArg (World.drewN _) (Nat.add_assoc _ _ _))⟩)) | (go_at_call 52; (with_reducible refine (impl_areWinds.calls ((rd_T55 l0 x15_2).f1) ((rd_T55 l0 x15_2).f2) false _ A10.out).mono ?_); rintro e w' ⟨rfl, ⟨nd, rfl⟩⟩; (try first | exact ⟨rfl, _, World.drewN_drewN _ _ _⟩ | exact ⟨rfl, _, Eq.trans (World.drewN_drewN _ _ _) (congrArg (World.drewN _) (Nat.add_assoc _ _ _))⟩))))
                      go_ret
                      exact ⟨by first | rfl | (simp [errW_none, errW_some] <;> rfl) | (simp [*, errW_none, errW_some] <;> rfl), by repeat (first | (with_reducible first | exact HB.out | apply below_alloc | apply pw_below_drewN | apply below_drew1 | refine below_set ?_ GE170.out) | exact HB.out)⟩
                  · replace c9 := Bool.eq_false_iff.mpr c9
                    subst c9
                    have H1 : (some false) = some r := by rw [if_neg (show ¬ (false = true) by decide)] at H; exact H
                    clear H
                    have H := H1
                    clear H1
                    obtain rfl := Option.some.inj H
                    simp only [Option.some.injEq, Prod.mk.injEq] at H
                    obtain ⟨rfl⟩ := H
                    have p169 : 0 ≤ (x15_2 : Int) := of_decide_eq_true (by first | (with_reducible assumption) | assumption)
                    have q169 : x15_2 < (l0.length : Int) := of_decide_eq_true (by first | (with_reducible assumption) | assumption)
                    obtain ⟨ad169, e169, hx169_0, hx169_1, hx169_2⟩ := at_T55 HR0.out x15_2 p169 q169
                    cases e169
                    replace hx169_0 := (HB.out.cell (World.block_lt_of_cell? _ _ hx169_0)).trans hx169_0
                    replace hx169_1 := (HB.out.cell (World.block_lt_of_cell? _ _ hx169_1)).trans hx169_1
                    replace hx169_2 := (HB.out.cell (World.block_lt_of_cell? _ _ hx169_2)).trans hx169_2
                    replace p169 := eq_true p169
                    replace q169 := eq_true q169
                    go_wp2_with (first | ((with_reducible refine gate_dst (N := 4) rfl ?_); (try (refine gate_guard (by rfl) ?_; dsimp only)); refine box_event ?hg (N := 4) ?hd (cs := #[.int .i64 0, .int .i64 0, .int .i64 0]) (t := 55) ?hr ?_; (case hd => rfl); (case hg => rfl); (case hr => first | (go_simp; done) | (go_simp; rfl)); intro gb170 hg w25 hbox hb; have n0_ := Aside0.mk (below_step (by repeat (first | (with_reducible first | exact HB.out | apply below_alloc | apply pw_below_drewN | apply below_drew1) | exact HB.out)) hb); have n1_ := Aside0.mk (hbox); have n2_ := Aside0.mk ((by rw [hg]; exact (below_size (by repeat (first | (with_reducible first | exact HB.out | apply below_alloc | apply pw_below_drewN | apply below_drew1) | exact HB.out))) : w.heap.size ≤ gb170)); have n3_ := Aside0.mk ((by rw [hg]; exact (below_size (by repeat (first | (with_reducible first | exact HB.out | apply below_alloc | apply pw_below_drewN | apply below_drew1) | exact HB.out))) : w.heap.size ≤ gb170)); clear HB; have HB := n0_; have BK170 := n1_; have GW170 := n2_; have GE170 := n3_; clear n0_ n1_ n2_ n3_; clear hb hbox hg; have hcz26_0 : w25.cell? ⟨gb170, 0, none⟩ = some (.int .i64 0) := (blk_cell BK170.out 0).trans rfl; have hcz26_1 : w25.cell? ⟨gb170, 1, none⟩ = some (.int .i64 0) := (blk_cell BK170.out 1).trans rfl; have hcz26_2 : w25.cell? ⟨gb170, 2, none⟩ = some (.int .i64 0) := (blk_cell BK170.out 2).trans rfl; have hfz26_0 := blk_frozen BK170.out 0; have hfz26_1 := blk_frozen BK170.out 1; have hfz26_2 := blk_frozen BK170.out 2) | (go_at_call 51; (with_reducible refine (impl_within.calls ((rd_T55 l0 x15_2).f0) 1 1000000 false _ A8.out).mono ?_); rintro e w' ⟨rfl, ⟨nd, rfl⟩⟩; (try first | exact ⟨rfl, _, World.drewN_drewN _ _ _⟩ | exact ⟨rfl, _, Eq.trans (World.drewN_drewN _ _ _) (congrArg (World.drewN _) (Nat.add_assoc _ _ _))⟩)))
                    repeat (go_quiet (first | ((with_reducible refine gate_dst (N := 4) rfl ?_); (try (refine gate_guard (by rfl) ?_; dsimp only)); refine box_event ?hg (N := 4) ?hd (cs := #[.int .i64 0, .int .i64 0, .int .i64 0]) (t := 55) ?hr ?_; (case hd => rfl); (case hg => rfl); (case hr => first | (go_simp; done) | (go_simp; rfl)); intro gb170 hg w25 hbox hb; have n0_ := Aside0.mk (below_step (by repeat (first | (with_reducible first | exact HB.out | apply below_alloc | apply pw_below_drewN | apply below_drew1) | exact HB.out)) hb); have n1_ := Aside0.mk (hbox); have n2_ := Aside0.mk ((by rw [hg]; exact (below_size (by repeat (first | (with_reducible first | exact HB.out | apply below_alloc | apply pw_below_drewN | apply below_drew1) | exact HB.out))) : w.heap.size ≤ gb170)); have n3_ := Aside0.mk ((by rw [hg]; exact (below_size (by repeat (first | (with_reducible first | exact HB.out | apply below_alloc | apply pw_below_drewN | apply below_drew1) | exact HB.out))) : w.heap.size ≤ gb170)); clear HB; have HB := n0_; have BK170 := n1_; have GW170 := n2_; have GE170 := n3_; clear n0_ n1_ n2_ n3_; clear hb hbox hg; have hcz26_0 : w25.cell? ⟨gb170, 0, none⟩ = some (.int .i64 0) := (blk_cell BK170.out 0).trans rfl; have hcz26_1 : w25.cell? ⟨gb170, 1, none⟩ = some (.int .i64 0) := (blk_cell BK170.out 1).trans rfl; have hcz26_2 : w25.cell? ⟨gb170, 2, none⟩ = some (.int .i64 0) := (blk_cell BK170.out 2).trans rfl; have hfz26_0 := blk_frozen BK170.out 0; have hfz26_1 := blk_frozen BK170.out 1; have hfz26_2 := blk_frozen BK170.out 2) | (go_at_call 51; (with_reducible refine (impl_within.calls ((rd_T55 l0 x15_2).f0) 1 1000000 false _ A8.out).mono ?_); rintro e w' ⟨rfl, ⟨nd, rfl⟩⟩; (try first | exact ⟨rfl, _, World.drewN_drewN _ _ _⟩ | exact ⟨rfl, _, Eq.trans (World.drewN_drewN _ _ _) (congrArg (World.drewN _) (Nat.add_assoc _ _ _))⟩))); try go_wp2_with (first | ((with_reducible refine gate_dst (N := 4) rfl ?_); (try (refine gate_guard (by rfl) ?_; dsimp only)); refine box_event ?hg (N := 4) ?hd (cs := #[.int .i64 0, .int .i64 0, .int .i64 0]) (t := 55) ?hr ?_; (case hd => rfl); (case hg => rfl); (case hr => first | (go_simp; done) | (go_simp; rfl)); intro gb170 hg w25 hbox hb; have n0_ := Aside0.mk (below_step (by repeat (first | (with_reducible first | exact HB.out | apply below_alloc | apply pw_below_drewN | apply below_drew1) | exact HB.out)) hb); have n1_ := Aside0.mk (hbox); have n2_ := Aside0.mk ((by rw [hg]; exact (below_size (by repeat (first | (with_reducible first | exact HB.out | apply below_alloc | apply pw_below_drewN | apply below_drew1) | exact HB.out))) : w.heap.size ≤ gb170)); have n3_ := Aside0.mk ((by rw [hg]; exact (below_size (by repeat (first | (with_reducible first | exact HB.out | apply below_alloc | apply pw_below_drewN | apply below_drew1) | exact HB.out))) : w.heap.size ≤ gb170)); clear HB; have HB := n0_; have BK170 := n1_; have GW170 := n2_; have GE170 := n3_; clear n0_ n1_ n2_ n3_; clear hb hbox hg; have hcz26_0 : w25.cell? ⟨gb170, 0, none⟩ = some (.int .i64 0) := (blk_cell BK170.out 0).trans rfl; have hcz26_1 : w25.cell? ⟨gb170, 1, none⟩ = some (.int .i64 0) := (blk_cell BK170.out 1).trans rfl; have hcz26_2 : w25.cell? ⟨gb170, 2, none⟩ = some (.int .i64 0) := (blk_cell BK170.out 2).trans rfl; have hfz26_0 := blk_frozen BK170.out 0; have hfz26_1 := blk_frozen BK170.out 1; have hfz26_2 := blk_frozen BK170.out 2) | (go_at_call 51; (with_reducible refine (impl_within.calls ((rd_T55 l0 x15_2).f0) 1 1000000 false _ A8.out).mono ?_); rintro e w' ⟨rfl, ⟨nd, rfl⟩⟩; (try first | exact ⟨rfl, _, World.drewN_drewN _ _ _⟩ | exact ⟨rfl, _, Eq.trans (World.drewN_drewN _ _ _) (congrArg (World.drewN _) (Nat.add_assoc _ _ _))⟩))))
                    go_ret
                    exact ⟨by first | rfl | (simp [errW_none, errW_some] <;> rfl) | (simp [*, errW_none, errW_some] <;> rfl), by repeat (first | (with_reducible first | exact HB.out | apply below_alloc | apply pw_below_drewN | apply below_drew1 | refine below_set ?_ GE170.out) | exact HB.out)⟩
                · rw [if_neg c7] at H
                  exact absurd H (by simp)
              · rw [if_neg c6] at H
                exact absurd H (by simp)
            · rw [if_neg c5] at H
              have c5b0 : decide (x15_2 < (l0.length : Int)) = false := decide_eq_false c5
              clear c5
              obtain rfl := Option.some.inj H
              simp only [Option.some.injEq, Prod.mk.injEq] at H
              obtain ⟨rfl⟩ := H
              go_wp2
              repeat (go_quiet (fail); try go_wp2)
              go_ret
              exact ⟨by first | rfl | (simp [errW_none, errW_some] <;> rfl) | (simp [*, errW_none, errW_some] <;> rfl), by repeat (first | (with_reducible first | exact HB.out | apply below_alloc | apply pw_below_drewN | apply below_drew1) | exact HB.out)⟩

end Go.Proofs.Ytidibjmckgbpbaa.QFnExactWidenWind
