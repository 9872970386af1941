-- Written by a program of this project's session, after the kit's print (a turned copy of its programs). Lean checks it.
import Derived.Test.YtidibjmckgbpbaaQFnExactIsCalmx0
import Derived.Test.YtidibjmckgbpbaaQFnExactIsCalmx4
namespace Go.Proofs.Ytidibjmckgbpbaa.QFnExactIsCalm
open Go.RowKit Go.Proofs.YtidibjmckgbpbaaW.PrintWords Go.Proofs.YtidibjmckgbpbaaW.PrintLast Go.Proofs.YtidibjmckgbpbaaW.PrintMore
attribute [local go_sem] max2_int min2_int max_two min_two max_three min_three max_four min_four   -- for this text's walks alone
set_option linter.unusedVariables false
set_option linter.unusedSimpArgs false

/-! ### impl_IsProfile: function 17 -/
mutual
def impl_IsProfile.j0 : Nat → List (S55) → Bool → Option (Bool)
  | 0, _, _ => none
  | k + 1, x0, x12 => if x12 = true then (some false) else (impl_IsProfile.l0 k x0 x0 (x0.length : Int) 0)
def impl_IsProfile.l0 : Nat → List (S55) → List (S55) → Int → Int → Option (Bool)
  | 0, _, _, _, _ => none
  | k + 1, x0, x13, x14, x15 => if x15 < x14 then (if 0 ≤ x15 then (if x15 < (x13.length : Int) then ((impl_within.f ((rd_T55 x13 x15).f0) 1 1000000).bind fun t161 => (if t161 = true then ((impl_areWinds.f ((rd_T55 x13 x15).f1) ((rd_T55 x13 x15).f2)).bind fun t162 => (if t162 = true then (if x15 > 0 then (if 0 ≤ (wrap64 (x15 - 1)) then (if (wrap64 (x15 - 1)) < (x0.length : Int) then (if ((rd_T55 x0 (wrap64 (x15 - 1))).f0) ≥ ((rd_T55 x13 x15).f0) then (some false) else (impl_IsProfile.l0 k x0 x13 x14 (wrap64 (x15 + 1)))) else (none)) else (none)) else (impl_IsProfile.l0 k x0 x13 x14 (wrap64 (x15 + 1)))) else (some false))) else (some false))) else (none)) else (none)) else (some true)
end
def impl_IsProfile.f (k : Nat) (l0 : List (S55)) : Option (Bool) := if (l0.length : Int) < 1 then (impl_IsProfile.j0 k l0 true) else (impl_IsProfile.j0 k l0 (decide ((l0.length : Int) > 6)))
theorem impl_IsProfile.mono_l : ∀ k, (∀ y0 y1, LeO (impl_IsProfile.j0 k y0 y1) (impl_IsProfile.j0 (k + 1) y0 y1)) ∧ (∀ y0 y1 y2 y3, LeO (impl_IsProfile.l0 k y0 y1 y2 y3) (impl_IsProfile.l0 (k + 1) y0 y1 y2 y3))
  | 0 => ⟨fun _ _ r h => by simp [impl_IsProfile.j0] at h, fun _ _ _ _ r h => by simp [impl_IsProfile.l0] at h⟩
  | k + 1 => by
    obtain ⟨ih0, ih1⟩ := impl_IsProfile.mono_l k
    refine ⟨?_, ?_⟩
    · intro y0 y1
      unfold impl_IsProfile.j0
      repeat' first
      | (with_reducible exact ih0 _ _)
      | (with_reducible exact ih1 _ _ _ _)
      | (with_reducible exact LeO.refl _)
      | (with_reducible exact LeO.none _)
      | (with_reducible refine LeO.ite ?_ ?_)
      | (with_reducible refine LeO.bind ?_ (fun _ => ?_))
      | exact ih0 _ _
      | exact ih1 _ _ _ _
      | exact LeO.none _
      | refine LeO.ite ?_ ?_
      | refine LeO.bind ?_ (fun _ => ?_)
    · intro y0 y1 y2 y3
      unfold impl_IsProfile.l0
      repeat' first
      | (with_reducible exact ih0 _ _)
      | (with_reducible exact ih1 _ _ _ _)
      | (with_reducible exact LeO.refl _)
      | (with_reducible exact LeO.none _)
      | (with_reducible refine LeO.ite ?_ ?_)
      | (with_reducible refine LeO.bind ?_ (fun _ => ?_))
      | exact ih0 _ _
      | exact ih1 _ _ _ _
      | exact LeO.none _
      | refine LeO.ite ?_ ?_
      | refine LeO.bind ?_ (fun _ => ?_)
theorem impl_IsProfile.mono : ∀ a0 k, LeO (impl_IsProfile.f k a0) (impl_IsProfile.f (k + 1) a0) := by
  intro a0 k
  obtain ⟨ih0, ih1⟩ := impl_IsProfile.mono_l k
  unfold impl_IsProfile.f
  repeat' first
      | (with_reducible exact ih0 _ _)
      | (with_reducible exact ih1 _ _ _ _)
      | (with_reducible exact LeO.refl _)
      | (with_reducible exact LeO.none _)
      | (with_reducible refine LeO.ite ?_ ?_)
      | (with_reducible refine LeO.bind ?_ (fun _ => ?_))
      | exact ih0 _ _
      | exact ih1 _ _ _ _
      | exact LeO.none _
      | refine LeO.ite ?_ ?_
      | refine LeO.bind ?_ (fun _ => ?_)
set_option maxHeartbeats 8000000 in
set_option maxRecDepth 100000 in
theorem impl_IsProfile.calls (k : Nat) (A0 : Option Addr) (c0 : Nat) (l0 : List (S55)) (r : Bool) (w : World) (hr0 : Kd.C k55 w A0 l0.length l0) (hc0 : l0.length ≤ c0) (h : impl_IsProfile.f k l0 = some r) :
    Calls Try.prog 17 #[.slice A0 l0.length c0] w fun e w' => e = .returned (.bool r) ∧ Below w.heap.size w w' := by
  have hu55 := Try.underlying55
  have HR0 := Aside0.mk hr0
  have HC0 := Aside0.mk hc0
  clear hr0 hc0
  have HB := Aside0.mk (Below.refl w.heap.size w)
  have H : (if (l0.length : Int) < 1 then (impl_IsProfile.j0 k l0 true) else (impl_IsProfile.j0 k l0 (decide ((l0.length : Int) > 6)))) = some r := h
  clear h
  have HC2 := Aside0.mk H
  clear H
  go_enter Try.func17, Try.ntmps17
  go_upto_region 1 with (fail)
  repeat (go_quiet (fail); go_upto_region 1 with (fail))
  go_cut [12] (fun v12 wc => ∃ (kq : Nat) (x12_1 : Bool), v12 = .bool x12_1 ∧ Aside0 (impl_IsProfile.j0 kq l0 x12_1 = some r) ∧ Aside0 (kq ≤ k) ∧ Aside0 (Below w.heap.size w wc))
  case first =>
    have H := HC2.out
    clear HC2
    by_cases c3 : (l0.length : Int) < 1
    · rw [if_pos c3] at H
      have c3b0 : decide ((l0.length : Int) < 1) = true := decide_eq_true c3
      have c3b1 : decide (l0.length < 1) = true := decide_eq_true (by omega)
      clear c3
      (first | rw [c3b0] | (simp only [i64_w, i32_w]; rw [c3b0]) | skip)
      have H' := Aside0.mk H
      clear H
      go_wp2
      repeat (go_quiet (fail); try go_wp2)
      go_meet
      case rel => exact ⟨_, (true), (by first | rfl | (simp; done) | (simp [*]; done)), H', ⟨by first | omega | exact Nat.le_refl _⟩, ⟨by repeat (first | (with_reducible first | exact HB.out | apply below_alloc | apply pw_below_drewN | apply below_drew1) | exact HB.out)⟩⟩
    · rw [if_neg c3] at H
      have c3b0 : decide ((l0.length : Int) < 1) = false := decide_eq_false c3
      have c3b1 : decide (l0.length < 1) = false := decide_eq_false (by omega)
      clear c3
      (first | rw [c3b0] | (simp only [i64_w, i32_w]; rw [c3b0]) | skip)
      have H' := Aside0.mk H
      clear H
      go_wp2
      repeat (go_quiet (fail); try go_wp2)
      go_meet
      case rel => exact ⟨_, (decide ((l0.length : Int) > 6)), (by first | rfl | (simp; done) | (simp [*]; done)), H', ⟨by first | omega | exact Nat.le_refl _⟩, ⟨by repeat (first | (with_reducible first | exact HB.out | apply below_alloc | apply pw_below_drewN | apply below_drew1) | exact HB.out)⟩⟩
  case rest =>
    clear HC2
    try clear c1
    try clear p2
    try clear c3
    try clear c3b0
    try clear c3b1
    obtain ⟨kq, x12_1, rfl, HA, HJ1, HB⟩ := hcut
    cases kq with
    | zero => exact absurd HA.out (by simp [impl_IsProfile.j0])
    | succ kj1 =>
      have H := HA.out
      clear HA
      simp only [impl_IsProfile.j0] at H
      by_cases c4 : x12_1 = true
      · subst c4
        have H1 : (some false) = some r := by rw [if_pos rfl] at H; exact H
        clear H
        have H := H1
        clear H1
        obtain rfl := Option.some.inj H
        simp only [Option.some.injEq, Prod.mk.injEq] at H
        obtain ⟨rfl⟩ := H
        go_wp2
        repeat (go_quiet (fail); try go_wp2)
        go_ret
        exact ⟨by first | rfl | (simp [errW_none, errW_some] <;> rfl) | (simp [*, errW_none, errW_some] <;> rfl), by repeat (first | (with_reducible first | exact HB.out | apply below_alloc | apply pw_below_drewN | apply below_drew1) | exact HB.out)⟩
      · replace c4 := Bool.eq_false_iff.mpr c4
        subst c4
        have H1 : (impl_IsProfile.l0 kj1 l0 l0 (l0.length : Int) 0) = some r := by rw [if_neg (show ¬ (false = true) by decide)] at H; exact H
        clear H
        have H := H1
        clear H1
        have H' := Aside0.mk H
        clear H
        go_wp2
        repeat (go_quiet (fail); try go_wp2)
        go_loopg [15] kj1 (fun kq v15 w' => ∃ (x15_2 : Int), v15 = .int .i64 x15_2 ∧ Aside0 (impl_IsProfile.l0 kq l0 l0 (l0.length : Int) x15_2 = some r) ∧ Aside0 (kq ≤ kj1) ∧ Aside0 (Below w.heap.size w w'))
        case atStart => exact ⟨(0), (by first | rfl | (simp; done) | (simp [*]; done)), H', ⟨Nat.le_refl _⟩, ⟨by repeat (first | (with_reducible first | exact HB.out | apply below_alloc | apply pw_below_drewN | apply below_drew1) | exact HB.out)⟩⟩
        case round =>
          clear H'
          try clear c1
          try clear p2
          try clear c3
          try clear c3b0
          try clear c3b1
          try clear c4
          try clear p2
          obtain ⟨x15_2, rfl, HA, HK2, HB⟩ := hrel
          cases gk with
          | zero => exact absurd HA.out (by simp [impl_IsProfile.l0])
          | succ k2 =>
            have H := HA.out
            clear HA
            simp only [impl_IsProfile.l0] at H
            by_cases c5 : x15_2 < (l0.length : Int)
            · rw [if_pos c5] at H
              have c5b0 : decide (x15_2 < (l0.length : Int)) = true := decide_eq_true c5
              clear c5
              by_cases c6 : 0 ≤ x15_2
              · rw [if_pos c6] at H
                have c6b0 : decide (0 ≤ x15_2) = true := decide_eq_true c6
                clear c6
                by_cases c7 : x15_2 < (l0.length : Int)
                · rw [if_pos c7] at H
                  have c7b0 : decide (x15_2 < (l0.length : Int)) = true := decide_eq_true c7
                  clear c7
                  replace H := Option.bind_eq_some_iff.mp H
                  obtain ⟨t161, A80, H⟩ := H
                  replace H : (if t161 = true then ((impl_areWinds.f ((rd_T55 l0 x15_2).f1) ((rd_T55 l0 x15_2).f2)).bind fun t162 => (if t162 = true then (if x15_2 > 0 then (if 0 ≤ (wrap64 (x15_2 - 1)) then (if (wrap64 (x15_2 - 1)) < (l0.length : Int) then (if ((rd_T55 l0 (wrap64 (x15_2 - 1))).f0) ≥ ((rd_T55 l0 x15_2).f0) then (some false) else (impl_IsProfile.l0 k2 l0 l0 (l0.length : Int) (wrap64 (x15_2 + 1)))) else (none)) else (none)) else (impl_IsProfile.l0 k2 l0 l0 (l0.length : Int) (wrap64 (x15_2 + 1)))) else (some false))) else (some false)) = some r := H
                  have A8 := Aside0.mk A80
                  clear A80
                  by_cases c9 : t161 = true
                  · subst c9
                    have H1 : ((impl_areWinds.f ((rd_T55 l0 x15_2).f1) ((rd_T55 l0 x15_2).f2)).bind fun t162 => (if t162 = true then (if x15_2 > 0 then (if 0 ≤ (wrap64 (x15_2 - 1)) then (if (wrap64 (x15_2 - 1)) < (l0.length : Int) then (if ((rd_T55 l0 (wrap64 (x15_2 - 1))).f0) ≥ ((rd_T55 l0 x15_2).f0) then (some false) else (impl_IsProfile.l0 k2 l0 l0 (l0.length : Int) (wrap64 (x15_2 + 1)))) else (none)) else (none)) else (impl_IsProfile.l0 k2 l0 l0 (l0.length : Int) (wrap64 (x15_2 + 1)))) else (some false))) = some r := by rw [if_pos rfl] at H; exact H
                    clear H
                    have H := H1
                    clear H1
                    replace H := Option.bind_eq_some_iff.mp H
                    obtain ⟨t162, A100, H⟩ := H
                    replace H : (if t162 = true then (if x15_2 > 0 then (if 0 ≤ (wrap64 (x15_2 - 1)) then (if (wrap64 (x15_2 - 1)) < (l0.length : Int) then (if ((rd_T55 l0 (wrap64 (x15_2 - 1))).f0) ≥ ((rd_T55 l0 x15_2).f0) then (some false) else (impl_IsProfile.l0 k2 l0 l0 (l0.length : Int) (wrap64 (x15_2 + 1)))) else (none)) else (none)) else (impl_IsProfile.l0 k2 l0 l0 (l0.length : Int) (wrap64 (x15_2 + 1)))) else (some false)) = some r := H
                    have A10 := Aside0.mk A100
                    clear A100
                    by_cases c11 : t162 = true
                    · subst c11
                      have H1 : (if x15_2 > 0 then (if 0 ≤ (wrap64 (x15_2 - 1)) then (if (wrap64 (x15_2 - 1)) < (l0.length : Int) then (if ((rd_T55 l0 (wrap64 (x15_2 - 1))).f0) ≥ ((rd_T55 l0 x15_2).f0) then (some false) else (impl_IsProfile.l0 k2 l0 l0 (l0.length : Int) (wrap64 (x15_2 + 1)))) else (none)) else (none)) else (impl_IsProfile.l0 k2 l0 l0 (l0.length : Int) (wrap64 (x15_2 + 1)))) = some r := by rw [if_pos rfl] at H; exact H
                      clear H
                      have H := H1
                      clear H1
                      by_cases c12 : x15_2 > 0
                      · rw [if_pos c12] at H
                        have c12b0 : decide (0 < x15_2) = true := decide_eq_true c12
                        clear c12
                        obtain ⟨ji13, hji13⟩ : ∃ j_ : Int, (wrap64 (x15_2 - 1)) = j_ := ⟨_, rfl⟩
                        replace H : (if 0 ≤ (ji13) then (if (ji13) < (l0.length : Int) then (if ((rd_T55 l0 (ji13)).f0) ≥ ((rd_T55 l0 x15_2).f0) then (some false) else (impl_IsProfile.l0 k2 l0 l0 (l0.length : Int) (wrap64 (x15_2 + 1)))) else (none)) else (none)) = some r := by first | (rw [hji13] at H; exact H) | (simp only [hji13] at H ⊢; exact H)
                        (try rw [hji13] at A8)
                        (try rw [hji13] at A10)
                        have hji13w : (IntKind.i64.wrap (x15_2 - 1)) = ji13 := (i64_w _).trans hji13
                        by_cases c14 : 0 ≤ (ji13)
                        · rw [if_pos c14] at H
                          have c14b0 : decide (0 ≤ (ji13)) = true := decide_eq_true c14
                          clear c14
                          by_cases c15 : (ji13) < (l0.length : Int)
                          · rw [if_pos c15] at H
                            have c15b0 : decide ((ji13) < (l0.length : Int)) = true := decide_eq_true c15
                            clear c15
                            by_cases c16 : ((rd_T55 l0 (ji13)).f0) ≥ ((rd_T55 l0 x15_2).f0)
                            · rw [if_pos c16] at H
                              have c16b0 : decide (((rd_T55 l0 x15_2).f0) ≤ ((rd_T55 l0 (ji13)).f0)) = true := decide_eq_true c16
                              clear c16
                              obtain rfl := Option.some.inj H
                              simp only [Option.some.injEq, Prod.mk.injEq] at H
                              obtain ⟨rfl⟩ := H
                              have p159 : 0 ≤ (x15_2 : Int) := of_decide_eq_true (by first | (with_reducible assumption) | assumption)
                              have q159 : x15_2 < (l0.length : Int) := of_decide_eq_true (by first | (with_reducible assumption) | assumption)
                              obtain ⟨ad159, e159, hx159_0, hx159_1, hx159_2⟩ := at_T55 HR0.out x15_2 p159 q159
                              cases e159
                              replace hx159_0 := (HB.out.cell (World.block_lt_of_cell? _ _ hx159_0)).trans hx159_0
                              replace hx159_1 := (HB.out.cell (World.block_lt_of_cell? _ _ hx159_1)).trans hx159_1
                              replace hx159_2 := (HB.out.cell (World.block_lt_of_cell? _ _ hx159_2)).trans hx159_2
                              replace p159 := eq_true p159
                              replace q159 := eq_true q159
                              go_wp2_with (first | ((with_reducible refine gate_dst (N := 4) rfl ?_); (try (refine gate_guard (by rfl) ?_; dsimp only)); refine box_event ?hg (N := 4) ?hd (cs := #[.int .i64 0, .int .i64 0, .int .i64 0]) (t := 55) ?hr ?_; (case hd => rfl); (case hg => rfl); (case hr => first | (go_simp; done) | (go_simp; rfl)); intro gb160 hg w17 hbox hb; have n0_ := Aside0.mk (below_step (by repeat (first | (with_reducible first | exact HB.out | apply below_alloc | apply pw_below_drewN | apply below_drew1) | exact HB.out)) hb); have n1_ := Aside0.mk (hbox); have n2_ := Aside0.mk ((by rw [hg]; exact (below_size (by repeat (first | (with_reducible first | exact HB.out | apply below_alloc | apply pw_below_drewN | apply below_drew1) | exact HB.out))) : w.heap.size ≤ gb160)); have n3_ := Aside0.mk ((by rw [hg]; exact (below_size (by repeat (first | (with_reducible first | exact HB.out | apply below_alloc | apply pw_below_drewN | apply below_drew1) | exact HB.out))) : w.heap.size ≤ gb160)); clear HB; have HB := n0_; have BK160 := n1_; have GW160 := n2_; have GE160 := n3_; clear n0_ n1_ n2_ n3_; clear hb hbox hg; have hcz18_0 : w17.cell? ⟨gb160, 0, none⟩ = some (.int .i64 0) := (blk_cell BK160.out 0).trans rfl; have hcz18_1 : w17.cell? ⟨gb160, 1, none⟩ = some (.int .i64 0) := (blk_cell BK160.out 1).trans rfl; have hcz18_2 : w17.cell? ⟨gb160, 2, none⟩ = some (.int .i64 0) := (blk_cell BK160.out 2).trans rfl; have hfz18_0 := blk_frozen BK160.out 0; have hfz18_1 := blk_frozen BK160.out 1; have hfz18_2 := blk_frozen BK160.out 2) | (go_at_call 51; (with_reducible refine (impl_within.calls ((rd_T55 l0 x15_2).f0) 1 1000000 true _ A8.out).mono ?_); rintro e w' ⟨rfl, ⟨nd, rfl⟩⟩; (try first | exact ⟨rfl, _, World.drewN_drewN _ _ _⟩ | exact ⟨rfl, _, Eq.trans (World.drewN_drewN _ _ _) (congrArg (World.drewN _) (Nat.add_assoc _ _ _))⟩)) | (go_at_call 52; (with_reducible refine (impl_areWinds.calls ((rd_T55 l0 x15_2).f1) ((rd_T55 l0 x15_2).f2) true _ A10.out).mono ?_); rintro e w' ⟨rfl, ⟨nd, rfl⟩⟩; (try first | exact ⟨rfl, _, World.drewN_drewN _ _ _⟩ | exact ⟨rfl, _, Eq.trans (World.drewN_drewN _ _ _) (congrArg (World.drewN _) (Nat.add_assoc _ _ _))⟩); have p163 : 0 ≤ ((ji13) : Int) := of_decide_eq_true (by first | (with_reducible assumption) | assumption); have q163 : (ji13) < (l0.length : Int) := of_decide_eq_true (by first | (with_reducible assumption) | assumption); obtain ⟨ad163, e163, hx163_0, hx163_1, hx163_2⟩ := at_T55 HR0.out (ji13) p163 q163; obtain rfl : ad159 = ad163 := (by injection e163); have hn163_0 : ad159.block ≠ gb160 := Nat.ne_of_lt (Nat.lt_of_lt_of_le (by have := World.block_lt_of_cell? _ _ hx163_0; first | rwa [add_block] at this | exact this) GW160.out); have hn163_1 : ad159.block ≠ gb160 := Nat.ne_of_lt (Nat.lt_of_lt_of_le (by have := World.block_lt_of_cell? _ _ hx163_0; first | rwa [add_block] at this | exact this) GW160.out); have hn163_2 : ad159.block ≠ gb160 := Nat.ne_of_lt (Nat.lt_of_lt_of_le (by have := World.block_lt_of_cell? _ _ hx163_0; first | rwa [add_block] at this | exact this) GW160.out); replace hx163_0 := (HB.out.cell (World.block_lt_of_cell? _ _ hx163_0)).trans hx163_0; replace hx163_1 := (HB.out.cell (World.block_lt_of_cell? _ _ hx163_1)).trans hx163_1; replace hx163_2 := (HB.out.cell (World.block_lt_of_cell? _ _ hx163_2)).trans hx163_2; replace hx163_0 := (cell_far (p := ⟨gb160, 0, none⟩) (by first | (rw [add_block]; exact hn163_0) | (show (Addr.add _ _).block ≠ _; rw [add_block]; exact hn163_0) | exact hn163_0) (.int .i64 ((rd_T55 l0 x15_2).f0))).trans hx163_0; replace hx163_1 := (cell_far (p := ⟨gb160, 0, none⟩) (by first | (rw [add_block]; exact hn163_0) | (show (Addr.add _ _).block ≠ _; rw [add_block]; exact hn163_0) | exact hn163_0) (.int .i64 ((rd_T55 l0 x15_2).f0))).trans hx163_1; replace hx163_2 := (cell_far (p := ⟨gb160, 0, none⟩) (by first | (rw [add_block]; exact hn163_0) | (show (Addr.add _ _).block ≠ _; rw [add_block]; exact hn163_0) | exact hn163_0) (.int .i64 ((rd_T55 l0 x15_2).f0))).trans hx163_2; replace hx163_0 := (cell_far (p := ⟨gb160, 1, none⟩) (by first | (rw [add_block]; exact hn163_1) | (show (Addr.add _ _).block ≠ _; rw [add_block]; exact hn163_1) | exact hn163_1) (.int .i64 ((rd_T55 l0 x15_2).f1))).trans hx163_0; replace hx163_1 := (cell_far (p := ⟨gb160, 1, none⟩) (by first | (rw [add_block]; exact hn163_1) | (show (Addr.add _ _).block ≠ _; rw [add_block]; exact hn163_1) | exact hn163_1) (.int .i64 ((rd_T55 l0 x15_2).f1))).trans hx163_1; replace hx163_2 := (cell_far (p := ⟨gb160, 1, none⟩) (by first | (rw [add_block]; exact hn163_1) | (show (Addr.add _ _).block ≠ _; rw [add_block]; exact hn163_1) | exact hn163_1) (.int .i64 ((rd_T55 l0 x15_2).f1))).trans hx163_2; replace hx163_0 := (cell_far (p := ⟨gb160, 2, none⟩) (by first | (rw [add_block]; exact hn163_2) | (show (Addr.add _ _).block ≠ _; rw [add_block]; exact hn163_2) | exact hn163_2) (.int .i64 ((rd_T55 l0 x15_2).f2))).trans hx163_0; replace hx163_1 := (cell_far (p := ⟨gb160, 2, none⟩) (by first | (rw [add_block]; exact hn163_2) | (show (Addr.add _ _).block ≠ _; rw [add_block]; exact hn163_2) | exact hn163_2) (.int .i64 ((rd_T55 l0 x15_2).f2))).trans hx163_1; replace hx163_2 := (cell_far (p := ⟨gb160, 2, none⟩) (by first | (rw [add_block]; exact hn163_2) | (show (Addr.add _ _).block ≠ _; rw [add_block]; exact hn163_2) | exact hn163_2) (.int .i64 ((rd_T55 l0 x15_2).f2))).trans hx163_2; (try have hy163_0 := fun (n_ : Nat) => (show (((((w17.drewN n_).setCell ⟨gb160, 0, none⟩ (.int .i64 ((rd_T55 l0 x15_2).f0))).setCell ⟨gb160, 1, none⟩ (.int .i64 ((rd_T55 l0 x15_2).f1))).setCell ⟨gb160, 2, none⟩ (.int .i64 ((rd_T55 l0 x15_2).f2)))).cell? _ = some _ from hx163_0)); (try have hy163_1 := fun (n_ : Nat) => (show (((((w17.drewN n_).setCell ⟨gb160, 0, none⟩ (.int .i64 ((rd_T55 l0 x15_2).f0))).setCell ⟨gb160, 1, none⟩ (.int .i64 ((rd_T55 l0 x15_2).f1))).setCell ⟨gb160, 2, none⟩ (.int .i64 ((rd_T55 l0 x15_2).f2)))).cell? _ = some _ from hx163_1)); (try have hy163_2 := fun (n_ : Nat) => (show (((((w17.drewN n_).setCell ⟨gb160, 0, none⟩ (.int .i64 ((rd_T55 l0 x15_2).f0))).setCell ⟨gb160, 1, none⟩ (.int .i64 ((rd_T55 l0 x15_2).f1))).setCell ⟨gb160, 2, none⟩ (.int .i64 ((rd_T55 l0 x15_2).f2)))).cell? _ = some _ from hx163_2)); (try have hy163_0_1 := fun (n_ : Nat) => (show (((((w17.setCell ⟨gb160, 0, none⟩ (.int .i64 ((rd_T55 l0 x15_2).f0))).drewN n_).setCell ⟨gb160, 1, none⟩ (.int .i64 ((rd_T55 l0 x15_2).f1))).setCell ⟨gb160, 2, none⟩ (.int .i64 ((rd_T55 l0 x15_2).f2)))).cell? _ = some _ from hx163_0)); (try have hy163_1_1 := fun (n_ : Nat) => (show (((((w17.setCell ⟨gb160, 0, none⟩ (.int .i64 ((rd_T55 l0 x15_2).f0))).drewN n_).setCell ⟨gb160, 1, none⟩ (.int .i64 ((rd_T55 l0 x15_2).f1))).setCell ⟨gb160, 2, none⟩ (.int .i64 ((rd_T55 l0 x15_2).f2)))).cell? _ = some _ from hx163_1)); (try have hy163_2_1 := fun (n_ : Nat) => (show (((((w17.setCell ⟨gb160, 0, none⟩ (.int .i64 ((rd_T55 l0 x15_2).f0))).drewN n_).setCell ⟨gb160, 1, none⟩ (.int .i64 ((rd_T55 l0 x15_2).f1))).setCell ⟨gb160, 2, none⟩ (.int .i64 ((rd_T55 l0 x15_2).f2)))).cell? _ = some _ from hx163_2)); (try have hy163_0_2 := fun (n_ : Nat) => (show (((((w17.setCell ⟨gb160, 0, none⟩ (.int .i64 ((rd_T55 l0 x15_2).f0))).setCell ⟨gb160, 1, none⟩ (.int .i64 ((rd_T55 l0 x15_2).f1))).drewN n_).setCell ⟨gb160, 2, none⟩ (.int .i64 ((rd_T55 l0 x15_2).f2)))).cell? _ = some _ from hx163_0)); (try have hy163_1_2 := fun (n_ : Nat) => (show (((((w17.setCell ⟨gb160, 0, none⟩ (.int .i64 ((rd_T55 l0 x15_2).f0))).setCell ⟨gb160, 1, none⟩ (.int .i64 ((rd_T55 l0 x15_2).f1))).drewN n_).setCell ⟨gb160, 2, none⟩ (.int .i64 ((rd_T55 l0 x15_2).f2)))).cell? _ = some _ from hx163_1)); (try have hy163_2_2 := fun (n_ : Nat) => (show (((((w17.setCell ⟨gb160, 0, none⟩ (.int .i64 ((rd_T55 l0 x15_2).f0))).setCell ⟨gb160, 1, none⟩ (.int .i64 ((rd_T55 l0 x15_2).f1))).drewN n_).setCell ⟨gb160, 2, none⟩ (.int .i64 ((rd_T55 l0 x15_2).f2)))).cell? _ = some _ from hx163_2)); (try have hy163_0_3 := fun (n_ : Nat) => (show (((((w17.setCell ⟨gb160, 0, none⟩ (.int .i64 ((rd_T55 l0 x15_2).f0))).setCell ⟨gb160, 1, none⟩ (.int .i64 ((rd_T55 l0 x15_2).f1))).setCell ⟨gb160, 2, none⟩ (.int .i64 ((rd_T55 l0 x15_2).f2))).drewN n_)).cell? _ = some _ from hx163_0)); (try have hy163_1_3 := fun (n_ : Nat) => (show (((((w17.setCell ⟨gb160, 0, none⟩ (.int .i64 ((rd_T55 l0 x15_2).f0))).setCell ⟨gb160, 1, none⟩ (.int .i64 ((rd_T55 l0 x15_2).f1))).setCell ⟨gb160, 2, none⟩ (.int .i64 ((rd_T55 l0 x15_2).f2))).drewN n_)).cell? _ = some _ from hx163_1)); (try have hy163_2_3 := fun (n_ : Nat) => (show (((((w17.setCell ⟨gb160, 0, none⟩ (.int .i64 ((rd_T55 l0 x15_2).f0))).setCell ⟨gb160, 1, none⟩ (.int .i64 ((rd_T55 l0 x15_2).f1))).setCell ⟨gb160, 2, none⟩ (.int .i64 ((rd_T55 l0 x15_2).f2))).drewN n_)).cell? _ = some _ from hx163_2)); clear hn163_0; clear hn163_1; clear hn163_2; replace p163 := eq_true p163; replace q163 := eq_true q163))
                              repeat (go_quiet (first | ((with_reducible refine gate_dst (N := 4) rfl ?_); (try (refine gate_guard (by rfl) ?_; dsimp only)); refine box_event ?hg (N := 4) ?hd (cs := #[.int .i64 0, .int .i64 0, .int .i64 0]) (t := 55) ?hr ?_; (case hd => rfl); (case hg => rfl); (case hr => first | (go_simp; done) | (go_simp; rfl)); intro gb160 hg w17 hbox hb; have n0_ := Aside0.mk (below_step (by repeat (first | (with_reducible first | exact HB.out | apply below_alloc | apply pw_below_drewN | apply below_drew1) | exact HB.out)) hb); have n1_ := Aside0.mk (hbox); have n2_ := Aside0.mk ((by rw [hg]; exact (below_size (by repeat (first | (with_reducible first | exact HB.out | apply below_alloc | apply pw_below_drewN | apply below_drew1) | exact HB.out))) : w.heap.size ≤ gb160)); have n3_ := Aside0.mk ((by rw [hg]; exact (below_size (by repeat (first | (with_reducible first | exact HB.out | apply below_alloc | apply pw_below_drewN | apply below_drew1) | exact HB.out))) : w.heap.size ≤ gb160)); clear HB; have HB := n0_; have BK160 := n1_; have GW160 := n2_; have GE160 := n3_; clear n0_ n1_ n2_ n3_; clear hb hbox hg; have hcz18_0 : w17.cell? ⟨gb160, 0, none⟩ = some (.int .i64 0) := (blk_cell BK160.out 0).trans rfl; have hcz18_1 : w17.cell? ⟨gb160, 1, none⟩ = some (.int .i64 0) := (blk_cell BK160.out 1).trans rfl; have hcz18_2 : w17.cell? ⟨gb160, 2, none⟩ = some (.int .i64 0) := (blk_cell BK160.out 2).trans rfl; have hfz18_0 := blk_frozen BK160.out 0; have hfz18_1 := blk_frozen BK160.out 1; have hfz18_2 := blk_frozen BK160.out 2) | (go_at_call 51; (with_reducible refine (impl_within.calls ((rd_T55 l0 x15_2).f0) 1 1000000 true _ A8.out).mono ?_); rintro e w' ⟨rfl, ⟨nd, rfl⟩⟩; (try first | exact ⟨rfl, _, World.drewN_drewN _ _ _⟩ | exact ⟨rfl, _, Eq.trans (World.drewN_drewN _ _ _) (congrArg (World.drewN _) (Nat.add_assoc _ _ _))⟩)) | (go_at_call 52; (with_reducible refine (impl_areWinds.calls ((rd_T55 l0 x15_2).f1) ((rd_T55 l0 x15_2).f2) true _ A10.out).mono ?_); rintro e w' ⟨rfl, ⟨nd, rfl⟩⟩; (try first | exact ⟨rfl, _, World.drewN_drewN _ _ _⟩ | exact ⟨rfl, _, Eq.trans (World.drewN_drewN _ _ _) (congrArg (World.drewN _) (Nat.add_assoc _ _ _))⟩); have p163 : 0 ≤ ((ji13) : Int) := of_decide_eq_true (by first | (with_reducible assumption) | assumption); have q163 : (ji13) < (l0.length : Int) := of_decide_eq_true (by first | (with_reducible assumption) | assumption); obtain ⟨ad163, e163, hx163_0, hx163_1, hx163_2⟩ := at_T55 HR0.out (ji13) p163 q163; obtain rfl : ad159 = ad163 := (by injection e163); have hn163_0 : ad159.block ≠ gb160 := Nat.ne_of_lt (Nat.lt_of_lt_of_le (by have := World.block_lt_of_cell? _ _ hx163_0; first | rwa [add_block] at this | exact this) GW160.out); have hn163_1 : ad159.block ≠ gb160 := Nat.ne_of_lt (Nat.lt_of_lt_of_le (by have := World.block_lt_of_cell? _ _ hx163_0; first | rwa [add_block] at this | exact this) GW160.out); have hn163_2 : ad159.block ≠ gb160 := Nat.ne_of_lt (Nat.lt_of_lt_of_le (by have := World.block_lt_of_cell? _ _ hx163_0; first | rwa [add_block] at this | exact this) GW160.out); replace hx163_0 := (HB.out.cell (World.block_lt_of_cell? _ _ hx163_0)).trans hx163_0; replace hx163_1 := (HB.out.cell (World.block_lt_of_cell? _ _ hx163_1)).trans hx163_1; replace hx163_2 := (HB.out.cell (World.block_lt_of_cell? _ _ hx163_2)).trans hx163_2; replace hx163_0 := (cell_far (p := ⟨gb160, 0, none⟩) (by first | (rw [add_block]; exact hn163_0) | (show (Addr.add _ _).block ≠ _; rw [add_block]; exact hn163_0) | exact hn163_0) (.int .i64 ((rd_T55 l0 x15_2).f0))).trans hx163_0; replace hx163_1 := (cell_far (p := ⟨gb160, 0, none⟩) (by first | (rw [add_block]; exact hn163_0) | (show (Addr.add _ _).block ≠ _; rw [add_block]; exact hn163_0) | exact hn163_0) (.int .i64 ((rd_T55 l0 x15_2).f0))).trans hx163_1; replace hx163_2 := (cell_far (p := ⟨gb160, 0, none⟩) (by first | (rw [add_block]; exact hn163_0) | (show (Addr.add _ _).block ≠ _; rw [add_block]; exact hn163_0) | exact hn163_0) (.int .i64 ((rd_T55 l0 x15_2).f0))).trans hx163_2; replace hx163_0 := (cell_far (p := ⟨gb160, 1, none⟩) (by first | (rw [add_block]; exact hn163_1) | (show (Addr.add _ _).block ≠ _; rw [add_block]; exact hn163_1) | exact hn163_1) (.int .i64 ((rd_T55 l0 x15_2).f1))).trans hx163_0; replace hx163_1 := (cell_far (p := ⟨gb160, 1, none⟩) (by first | (rw [add_block]; exact hn163_1) | (show (Addr.add _ _).block ≠ _; rw [add_block]; exact hn163_1) | exact hn163_1) (.int .i64 ((rd_T55 l0 x15_2).f1))).trans hx163_1; replace hx163_2 := (cell_far (p := ⟨gb160, 1, none⟩) (by first | (rw [add_block]; exact hn163_1) | (show (Addr.add _ _).block ≠ _; rw [add_block]; exact hn163_1) | exact hn163_1) (.int .i64 ((rd_T55 l0 x15_2).f1))).trans hx163_2; replace hx163_0 := (cell_far (p := ⟨gb160, 2, none⟩) (by first | (rw [add_block]; exact hn163_2) | (show (Addr.add _ _).block ≠ _; rw [add_block]; exact hn163_2) | exact hn163_2) (.int .i64 ((rd_T55 l0 x15_2).f2))).trans hx163_0; replace hx163_1 := (cell_far (p := ⟨gb160, 2, none⟩) (by first | (rw [add_block]; exact hn163_2) | (show (Addr.add _ _).block ≠ _; rw [add_block]; exact hn163_2) | exact hn163_2) (.int .i64 ((rd_T55 l0 x15_2).f2))).trans hx163_1; replace hx163_2 := (cell_far (p := ⟨gb160, 2, none⟩) (by first | (rw [add_block]; exact hn163_2) | (show (Addr.add _ _).block ≠ _; rw [add_block]; exact hn163_2) | exact hn163_2) (.int .i64 ((rd_T55 l0 x15_2).f2))).trans hx163_2; (try have hy163_0 := fun (n_ : Nat) => (show (((((w17.drewN n_).setCell ⟨gb160, 0, none⟩ (.int .i64 ((rd_T55 l0 x15_2).f0))).setCell ⟨gb160, 1, none⟩ (.int .i64 ((rd_T55 l0 x15_2).f1))).setCell ⟨gb160, 2, none⟩ (.int .i64 ((rd_T55 l0 x15_2).f2)))).cell? _ = some _ from hx163_0)); (try have hy163_1 := fun (n_ : Nat) => (show (((((w17.drewN n_).setCell ⟨gb160, 0, none⟩ (.int .i64 ((rd_T55 l0 x15_2).f0))).setCell ⟨gb160, 1, none⟩ (.int .i64 ((rd_T55 l0 x15_2).f1))).setCell ⟨gb160, 2, none⟩ (.int .i64 ((rd_T55 l0 x15_2).f2)))).cell? _ = some _ from hx163_1)); (try have hy163_2 := fun (n_ : Nat) => (show (((((w17.drewN n_).setCell ⟨gb160, 0, none⟩ (.int .i64 ((rd_T55 l0 x15_2).f0))).setCell ⟨gb160, 1, none⟩ (.int .i64 ((rd_T55 l0 x15_2).f1))).setCell ⟨gb160, 2, none⟩ (.int .i64 ((rd_T55 l0 x15_2).f2)))).cell? _ = some _ from hx163_2)); (try have hy163_0_1 := fun (n_ : Nat) => (show (((((w17.setCell ⟨gb160, 0, none⟩ (.int .i64 ((rd_T55 l0 x15_2).f0))).drewN n_).setCell ⟨gb160, 1, none⟩ (.int .i64 ((rd_T55 l0 x15_2).f1))).setCell ⟨gb160, 2, none⟩ (.int .i64 ((rd_T55 l0 x15_2).f2)))).cell? _ = some _ from hx163_0)); (try have hy163_1_1 := fun (n_ : Nat) => (show (((((w17.setCell ⟨gb160, 0, none⟩ (.int .i64 ((rd_T55 l0 x15_2).f0))).drewN n_).setCell ⟨gb160, 1, none⟩ (.int .i64 ((rd_T55 l0 x15_2).f1))).setCell ⟨gb160, 2, none⟩ (.int .i64 ((rd_T55 l0 x15_2).f2)))).cell? _ = some _ from hx163_1)); (try have hy163_2_1 := fun (n_ : Nat) => (show (((((w17.setCell ⟨gb160, 0, none⟩ (.int .i64 ((rd_T55 l0 x15_2).f0))).drewN n_).setCell ⟨gb160, 1, none⟩ (.int .i64 ((rd_T55 l0 x15_2).f1))).setCell ⟨gb160, 2, none⟩ (.int .i64 ((rd_T55 l0 x15_2).f2)))).cell? _ = some _ from hx163_2)); (try have hy163_0_2 := fun (n_ : Nat) => (show (((((w17.setCell ⟨gb160, 0, none⟩ (.int .i64 ((rd_T55 l0 x15_2).f0))).setCell ⟨gb160, 1, none⟩ (.int .i64 ((rd_T55 l0 x15_2).f1))).drewN n_).setCell ⟨gb160, 2, none⟩ (.int .i64 ((rd_T55 l0 x15_2).f2)))).cell? _ = some _ from hx163_0)); (try have hy163_1_2 := fun (n_ : Nat) => (show (((((w17.setCell ⟨gb160, 0, none⟩ (.int .i64 ((rd_T55 l0 x15_2).f0))).setCell ⟨gb160, 1, none⟩ (.int .i64 ((rd_T55 l0 x15_2).f1))).drewN n_).setCell ⟨gb160, 2, none⟩ (.int .i64 ((rd_T55 l0 x15_2).f2)))).cell? _ = some _ from hx163_1)); (try have hy163_2_2 := fun (n_ : Nat) => (show (((((w17.setCell ⟨gb160, 0, none⟩ (.int .i64 ((rd_T55 l0 x15_2).f0))).setCell ⟨gb160, 1, none⟩ (.int .i64 ((rd_T55 l0 x15_2).f1))).drewN n_).setCell ⟨gb160, 2, none⟩ (.int .i64 ((rd_T55 l0 x15_2).f2)))).cell? _ = some _ from hx163_2)); (try have hy163_0_3 := fun (n_ : Nat) => (show (((((w17.setCell ⟨gb160, 0, none⟩ (.int .i64 ((rd_T55 l0 x15_2).f0))).setCell ⟨gb160, 1, none⟩ (.int .i64 ((rd_T55 l0 x15_2).f1))).setCell ⟨gb160, 2, none⟩ (.int .i64 ((rd_T55 l0 x15_2).f2))).drewN n_)).cell? _ = some _ from hx163_0)); (try have hy163_1_3 := fun (n_ : Nat) => (show (((((w17.setCell ⟨gb160, 0, none⟩ (.int .i64 ((rd_T55 l0 x15_2).f0))).setCell ⟨gb160, 1, none⟩ (.int .i64 ((rd_T55 l0 x15_2).f1))).setCell ⟨gb160, 2, none⟩ (.int .i64 ((rd_T55 l0 x15_2).f2))).drewN n_)).cell? _ = some _ from hx163_1)); (try have hy163_2_3 := fun (n_ : Nat) => (show (((((w17.setCell ⟨gb160, 0, none⟩ (.int .i64 ((rd_T55 l0 x15_2).f0))).setCell ⟨gb160, 1, none⟩ (.int .i64 ((rd_T55 l0 x15_2).f1))).setCell ⟨gb160, 2, none⟩ (.int .i64 ((rd_T55 l0 x15_2).f2))).drewN n_)).cell? _ = some _ from hx163_2)); clear hn163_0; clear hn163_1; clear hn163_2; replace p163 := eq_true p163; replace q163 := eq_true q163)); try go_wp2_with (first | ((with_reducible refine gate_dst (N := 4) rfl ?_); (try (refine gate_guard (by rfl) ?_; dsimp only)); refine box_event ?hg (N := 4) ?hd (cs := #[.int .i64 0, .int .i64 0, .int .i64 0]) (t := 55) ?hr ?_; (case hd => rfl); (case hg => rfl); (case hr => first | (go_simp; done) | (go_simp; rfl)); intro gb160 hg w17 hbox hb; have n0_ := Aside0.mk (below_step (by repeat (first | (with_reducible first | exact HB.out | apply below_alloc | apply pw_below_drewN | apply below_drew1) | exact HB.out)) hb); have n1_ := Aside0.mk (hbox); have n2_ := Aside0.mk ((by rw [hg]; exact (below_size (by repeat (first | (with_reducible first | exact HB.out | apply below_alloc | apply pw_below_drewN | apply below_drew1) | exact HB.out))) : w.heap.size ≤ gb160)); have n3_ := Aside0.mk ((by rw [hg]; exact (below_size (by repeat (first | (with_reducible first | exact HB.out | apply below_alloc | apply pw_below_drewN | apply below_drew1) | exact HB.out))) : w.heap.size ≤ gb160)); clear HB; have HB := n0_; have BK160 := n1_; have GW160 := n2_; have GE160 := n3_; clear n0_ n1_ n2_ n3_; clear hb hbox hg; have hcz18_0 : w17.cell? ⟨gb160, 0, none⟩ = some (.int .i64 0) := (blk_cell BK160.out 0).trans rfl; have hcz18_1 : w17.cell? ⟨gb160, 1, none⟩ = some (.int .i64 0) := (blk_cell BK160.out 1).trans rfl; have hcz18_2 : w17.cell? ⟨gb160, 2, none⟩ = some (.int .i64 0) := (blk_cell BK160.out 2).trans rfl; have hfz18_0 := blk_frozen BK160.out 0; have hfz18_1 := blk_frozen BK160.out 1; have hfz18_2 := blk_frozen BK160.out 2) | (go_at_call 51; (with_reducible refine (impl_within.calls ((rd_T55 l0 x15_2).f0) 1 1000000 true _ A8.out).mono ?_); rintro e w' ⟨rfl, ⟨nd, rfl⟩⟩; (try first | exact ⟨rfl, _, World.drewN_drewN _ _ _⟩ | exact ⟨rfl, _, Eq.trans (World.drewN_drewN _ _ _) (congrArg (World.drewN _) (Nat.add_assoc _ _ _))⟩)) | (go_at_call 52; (with_reducible refine (impl_areWinds.calls ((rd_T55 l0 x15_2).f1) ((rd_T55 l0 x15_2).f2) true _ A10.out).mono ?_); rintro e w' ⟨rfl, ⟨nd, rfl⟩⟩; (try first | exact ⟨rfl, _, World.drewN_drewN _ _ _⟩ | exact ⟨rfl, _, Eq.trans (World.drewN_drewN _ _ _) (congrArg (World.drewN _) (Nat.add_assoc _ _ _))⟩); have p163 : 0 ≤ ((ji13) : Int) := of_decide_eq_true (by first | (with_reducible assumption) | assumption); have q163 : (ji13) < (l0.length : Int) := of_decide_eq_true (by first | (with_reducible assumption) | assumption); obtain ⟨ad163, e163, hx163_0, hx163_1, hx163_2⟩ := at_T55 HR0.out (ji13) p163 q163; obtain rfl : ad159 = ad163 := (by injection e163); have hn163_0 : ad159.block ≠ gb160 := Nat.ne_of_lt (Nat.lt_of_lt_of_le (by have := World.block_lt_of_cell? _ _ hx163_0; first | rwa [add_block] at this | exact this) GW160.out); have hn163_1 : ad159.block ≠ gb160 := Nat.ne_of_lt (Nat.lt_of_lt_of_le (by have := World.block_lt_of_cell? _ _ hx163_0; first | rwa [add_block] at this | exact this) GW160.out); have hn163_2 : ad159.block ≠ gb160 := Nat.ne_of_lt (Nat.lt_of_lt_of_le (by have := World.block_lt_of_cell? _ _ hx163_0; first | rwa [add_block] at this | exact this) GW160.out); replace hx163_0 := (HB.out.cell (World.block_lt_of_cell? _ _ hx163_0)).trans hx163_0; replace hx163_1 := (HB.out.cell (World.block_lt_of_cell? _ _ hx163_1)).trans hx163_1; replace hx163_2 := (HB.out.cell (World.block_lt_of_cell? _ _ hx163_2)).trans hx163_2; replace hx163_0 := (cell_far (p := ⟨gb160, 0, none⟩) (by first | (rw [add_block]; exact hn163_0) | (show (Addr.add _ _).block ≠ _; rw [add_block]; exact hn163_0) | exact hn163_0) (.int .i64 ((rd_T55 l0 x15_2).f0))).trans hx163_0; replace hx163_1 := (cell_far (p := ⟨gb160, 0, none⟩) (by first | (rw [add_block]; exact hn163_0) | (show (Addr.add _ _).block ≠ _; rw [add_block]; exact hn163_0) | exact hn163_0) (.int .i64 ((rd_T55 l0 x15_2).f0))).trans hx163_1; replace hx163_2 := (cell_far (p := ⟨gb160, 0, none⟩) (by first | (rw [add_block]; exact hn163_0) | (show (Addr.add _ _).block ≠ _; rw [add_block]; exact hn163_0) | exact hn163_0) (.int .i64 ((rd_T55 l0 x15_2).f0))).trans hx163_2; replace hx163_0 := (cell_far (p := ⟨gb160, 1, none⟩) (by first | (rw [add_block]; exact hn163_1) | (show (Addr.add _ _).block ≠ _; rw [add_block]; exact hn163_1) | exact hn163_1) (.int .i64 ((rd_T55 l0 x15_2).f1))).trans hx163_0; replace hx163_1 := (cell_far (p := ⟨gb160, 1, none⟩) (by first | (rw [add_block]; exact hn163_1) | (show (Addr.add _ _).block ≠ _; rw [add_block]; exact hn163_1) | exact hn163_1) (.int .i64 ((rd_T55 l0 x15_2).f1))).trans hx163_1; replace hx163_2 := (cell_far (p := ⟨gb160, 1, none⟩) (by first | (rw [add_block]; exact hn163_1) | (show (Addr.add _ _).block ≠ _; rw [add_block]; exact hn163_1) | exact hn163_1) (.int .i64 ((rd_T55 l0 x15_2).f1))).trans hx163_2; replace hx163_0 := (cell_far (p := ⟨gb160, 2, none⟩) (by first | (rw [add_block]; exact hn163_2) | (show (Addr.add _ _).block ≠ _; rw [add_block]; exact hn163_2) | exact hn163_2) (.int .i64 ((rd_T55 l0 x15_2).f2))).trans hx163_0; replace hx163_1 := (cell_far (p := ⟨gb160, 2, none⟩) (by first | (rw [add_block]; exact hn163_2) | (show (Addr.add _ _).block ≠ _; rw [add_block]; exact hn163_2) | exact hn163_2) (.int .i64 ((rd_T55 l0 x15_2).f2))).trans hx163_1; replace hx163_2 := (cell_far (p := ⟨gb160, 2, none⟩) (by first | (rw [add_block]; exact hn163_2) | (show (Addr.add _ _).block ≠ _; rw [add_block]; exact hn163_2) | exact hn163_2) (.int .i64 ((rd_T55 l0 x15_2).f2))).trans hx163_2; (try have hy163_0 := fun (n_ : Nat) => (show (((((w17.drewN n_).setCell ⟨gb160, 0, none⟩ (.int .i64 ((rd_T55 l0 x15_2).f0))).setCell ⟨gb160, 1, none⟩ (.int .i64 ((rd_T55 l0 x15_2).f1))).setCell ⟨gb160, 2, none⟩ (.int .i64 ((rd_T55 l0 x15_2).f2)))).cell? _ = some _ from hx163_0)); (try have hy163_1 := fun (n_ : Nat) => (show (((((w17.drewN n_).setCell ⟨gb160, 0, none⟩ (.int .i64 ((rd_T55 l0 x15_2).f0))).setCell ⟨gb160, 1, none⟩ (.int .i64 ((rd_T55 l0 x15_2).f1))).setCell ⟨gb160, 2, none⟩ (.int .i64 ((rd_T55 l0 x15_2).f2)))).cell? _ = some _ from hx163_1)); (try have hy163_2 := fun (n_ : Nat) => (show (((((w17.drewN n_).setCell ⟨gb160, 0, none⟩ (.int .i64 ((rd_T55 l0 x15_2).f0))).setCell ⟨gb160, 1, none⟩ (.int .i64 ((rd_T55 l0 x15_2).f1))).setCell ⟨gb160, 2, none⟩ (.int .i64 ((rd_T55 l0 x15_2).f2)))).cell? _ = some _ from hx163_2)); (try have hy163_0_1 := fun (n_ : Nat) => (show (((((w17.setCell ⟨gb160, 0, none⟩ (.int .i64 ((rd_T55 l0 x15_2).f0))).drewN n_).setCell ⟨gb160, 1, none⟩ (.int .i64 ((rd_T55 l0 x15_2).f1))).setCell ⟨gb160, 2, none⟩ (.int .i64 ((rd_T55 l0 x15_2).f2)))).cell? _ = some _ from hx163_0)); (try have hy163_1_1 := fun (n_ : Nat) => (show (((((w17.setCell ⟨gb160, 0, none⟩ (.int .i64 ((rd_T55 l0 x15_2).f0))).drewN n_).setCell ⟨gb160, 1, none⟩ (.int .i64 ((rd_T55 l0 x15_2).f1))).setCell ⟨gb160, 2, none⟩ (.int .i64 ((rd_T55 l0 x15_2).f2)))).cell? _ = some _ from hx163_1)); (try have hy163_2_1 := fun (n_ : Nat) => (show (((((w17.setCell ⟨gb160, 0, none⟩ (.int .i64 ((rd_T55 l0 x15_2).f0))).drewN n_).setCell ⟨gb160, 1, none⟩ (.int .i64 ((rd_T55 l0 x15_2).f1))).setCell ⟨gb160, 2, none⟩ (.int .i64 ((rd_T55 l0 x15_2).f2)))).cell? _ = some _ from hx163_2)); (try have hy163_0_2 := fun (n_ : Nat) => (show (((((w17.setCell ⟨gb160, 0, none⟩ (.int .i64 ((rd_T55 l0 x15_2).f0))).setCell ⟨gb160, 1, none⟩ (.int .i64 ((rd_T55 l0 x15_2).f1))).drewN n_).setCell ⟨gb160, 2, none⟩ (.int .i64 ((rd_T55 l0 x15_2).f2)))).cell? _ = some _ from hx163_0)); (try have hy163_1_2 := fun (n_ : Nat) => (show (((((w17.setCell ⟨gb160, 0, none⟩ (.int .i64 ((rd_T55 l0 x15_2).f0))).setCell ⟨gb160, 1, none⟩ (.int .i64 ((rd_T55 l0 x15_2).f1))).drewN n_).setCell ⟨gb160, 2, none⟩ (.int .i64 ((rd_T55 l0 x15_2).f2)))).cell? _ = some _ from hx163_1)); (try have hy163_2_2 := fun (n_ : Nat) => (show (((((w17.setCell ⟨gb160, 0, none⟩ (.int .i64 ((rd_T55 l0 x15_2).f0))).setCell ⟨gb160, 1, none⟩ (.int .i64 ((rd_T55 l0 x15_2).f1))).drewN n_).setCell ⟨gb160, 2, none⟩ (.int .i64 ((rd_T55 l0 x15_2).f2)))).cell? _ = some _ from hx163_2)); (try have hy163_0_3 := fun (n_ : Nat) => (show (((((w17.setCell ⟨gb160, 0, none⟩ (.int .i64 ((rd_T55 l0 x15_2).f0))).setCell ⟨gb160, 1, none⟩ (.int .i64 ((rd_T55 l0 x15_2).f1))).setCell ⟨gb160, 2, none⟩ (.int .i64 ((rd_T55 l0 x15_2).f2))).drewN n_)).cell? _ = some _ from hx163_0)); (try have hy163_1_3 := fun (n_ : Nat) => (show (((((w17.setCell ⟨gb160, 0, none⟩ (.int .i64 ((rd_T55 l0 x15_2).f0))).setCell ⟨gb160, 1, none⟩ (.int .i64 ((rd_T55 l0 x15_2).f1))).setCell ⟨gb160, 2, none⟩ (.int .i64 ((rd_T55 l0 x15_2).f2))).drewN n_)).cell? _ = some _ from hx163_1)); (try have hy163_2_3 := fun (n_ : Nat) => (show (((((w17.setCell ⟨gb160, 0, none⟩ (.int .i64 ((rd_T55 l0 x15_2).f0))).setCell ⟨gb160, 1, none⟩ (.int .i64 ((rd_T55 l0 x15_2).f1))).setCell ⟨gb160, 2, none⟩ (.int .i64 ((rd_T55 l0 x15_2).f2))).drewN n_)).cell? _ = some _ from hx163_2)); clear hn163_0; clear hn163_1; clear hn163_2; replace p163 := eq_true p163; replace q163 := eq_true q163)))
                              go_ret
                              exact ⟨by first | rfl | (simp [errW_none, errW_some] <;> rfl) | (simp only [← hji13]; first | rfl | (simp [errW_none, errW_some] <;> rfl)) | (simp [*, errW_none, errW_some] <;> rfl), by repeat (first | (with_reducible first | exact HB.out | apply below_alloc | apply pw_below_drewN | apply below_drew1 | refine below_set ?_ GE160.out) | exact HB.out)⟩
                            · rw [if_neg c16] at H
                              have c16b0 : decide (((rd_T55 l0 x15_2).f0) ≤ ((rd_T55 l0 (ji13)).f0)) = false := decide_eq_false c16
                              clear c16
                              have H' := Aside0.mk H
                              clear H
                              have p159 : 0 ≤ (x15_2 : Int) := of_decide_eq_true (by first | (with_reducible assumption) | assumption)
                              have q159 : x15_2 < (l0.length : Int) := of_decide_eq_true (by first | (with_reducible assumption) | assumption)
                              obtain ⟨ad159, e159, hx159_0, hx159_1, hx159_2⟩ := at_T55 HR0.out x15_2 p159 q159
                              cases e159
                              replace hx159_0 := (HB.out.cell (World.block_lt_of_cell? _ _ hx159_0)).trans hx159_0
                              replace hx159_1 := (HB.out.cell (World.block_lt_of_cell? _ _ hx159_1)).trans hx159_1
                              replace hx159_2 := (HB.out.cell (World.block_lt_of_cell? _ _ hx159_2)).trans hx159_2
                              replace p159 := eq_true p159
                              replace q159 := eq_true q159
                              go_wp2_with (first | ((with_reducible refine gate_dst (N := 4) rfl ?_); (try (refine gate_guard (by rfl) ?_; dsimp only)); refine box_event ?hg (N := 4) ?hd (cs := #[.int .i64 0, .int .i64 0, .int .i64 0]) (t := 55) ?hr ?_; (case hd => rfl); (case hg => rfl); (case hr => first | (go_simp; done) | (go_simp; rfl)); intro gb160 hg w19 hbox hb; have n0_ := Aside0.mk (below_step (by repeat (first | (with_reducible first | exact HB.out | apply below_alloc | apply pw_below_drewN | apply below_drew1) | exact HB.out)) hb); have n1_ := Aside0.mk (hbox); have n2_ := Aside0.mk ((by rw [hg]; exact (below_size (by repeat (first | (with_reducible first | exact HB.out | apply below_alloc | apply pw_below_drewN | apply below_drew1) | exact HB.out))) : w.heap.size ≤ gb160)); have n3_ := Aside0.mk ((by rw [hg]; exact (below_size (by repeat (first | (with_reducible first | exact HB.out | apply below_alloc | apply pw_below_drewN | apply below_drew1) | exact HB.out))) : w.heap.size ≤ gb160)); clear HB; have HB := n0_; have BK160 := n1_; have GW160 := n2_; have GE160 := n3_; clear n0_ n1_ n2_ n3_; clear hb hbox hg; have hcz20_0 : w19.cell? ⟨gb160, 0, none⟩ = some (.int .i64 0) := (blk_cell BK160.out 0).trans rfl; have hcz20_1 : w19.cell? ⟨gb160, 1, none⟩ = some (.int .i64 0) := (blk_cell BK160.out 1).trans rfl; have hcz20_2 : w19.cell? ⟨gb160, 2, none⟩ = some (.int .i64 0) := (blk_cell BK160.out 2).trans rfl; have hfz20_0 := blk_frozen BK160.out 0; have hfz20_1 := blk_frozen BK160.out 1; have hfz20_2 := blk_frozen BK160.out 2) | (go_at_call 51; (with_reducible refine (impl_within.calls ((rd_T55 l0 x15_2).f0) 1 1000000 true _ A8.out).mono ?_); rintro e w' ⟨rfl, ⟨nd, rfl⟩⟩; (try first | exact ⟨rfl, _, World.drewN_drewN _ _ _⟩ | exact ⟨rfl, _, Eq.trans (World.drewN_drewN _ _ _) (congrArg (World.drewN _) (Nat.add_assoc _ _ _))⟩)) | (go_at_call 52; (with_reducible refine (impl_areWinds.calls ((rd_T55 l0 x15_2).f1) ((rd_T55 l0 x15_2).f2) true _ A10.out).mono ?_); rintro e w' ⟨rfl, ⟨nd, rfl⟩⟩; (try first | exact ⟨rfl, _, World.drewN_drewN _ _ _⟩ | exact ⟨rfl, _, Eq.trans (World.drewN_drewN _ _ _) (congrArg (World.drewN _) (Nat.add_assoc _ _ _))⟩); have p163 : 0 ≤ ((ji13) : Int) := of_decide_eq_true (by first | (with_reducible assumption) | assumption); have q163 : (ji13) < (l0.length : Int) := of_decide_eq_true (by first | (with_reducible assumption) | assumption); obtain ⟨ad163, e163, hx163_0, hx163_1, hx163_2⟩ := at_T55 HR0.out (ji13) p163 q163; obtain rfl : ad159 = ad163 := (by injection e163); have hn163_0 : ad159.block ≠ gb160 := Nat.ne_of_lt (Nat.lt_of_lt_of_le (by have := World.block_lt_of_cell? _ _ hx163_0; first | rwa [add_block] at this | exact this) GW160.out); have hn163_1 : ad159.block ≠ gb160 := Nat.ne_of_lt (Nat.lt_of_lt_of_le (by have := World.block_lt_of_cell? _ _ hx163_0; first | rwa [add_block] at this | exact this) GW160.out); have hn163_2 : ad159.block ≠ gb160 := Nat.ne_of_lt (Nat.lt_of_lt_of_le (by have := World.block_lt_of_cell? _ _ hx163_0; first | rwa [add_block] at this | exact this) GW160.out); replace hx163_0 := (HB.out.cell (World.block_lt_of_cell? _ _ hx163_0)).trans hx163_0; replace hx163_1 := (HB.out.cell (World.block_lt_of_cell? _ _ hx163_1)).trans hx163_1; replace hx163_2 := (HB.out.cell (World.block_lt_of_cell? _ _ hx163_2)).trans hx163_2; replace hx163_0 := (cell_far (p := ⟨gb160, 0, none⟩) (by first | (rw [add_block]; exact hn163_0) | (show (Addr.add _ _).block ≠ _; rw [add_block]; exact hn163_0) | exact hn163_0) (.int .i64 ((rd_T55 l0 x15_2).f0))).trans hx163_0; replace hx163_1 := (cell_far (p := ⟨gb160, 0, none⟩) (by first | (rw [add_block]; exact hn163_0) | (show (Addr.add _ _).block ≠ _; rw [add_block]; exact hn163_0) | exact hn163_0) (.int .i64 ((rd_T55 l0 x15_2).f0))).trans hx163_1; replace hx163_2 := (cell_far (p := ⟨gb160, 0, none⟩) (by first | (rw [add_block]; exact hn163_0) | (show (Addr.add _ _).block ≠ _; rw [add_block]; exact hn163_0) | exact hn163_0) (.int .i64 ((rd_T55 l0 x15_2).f0))).trans hx163_2; replace hx163_0 := (cell_far (p := ⟨gb160, 1, none⟩) (by first | (rw [add_block]; exact hn163_1) | (show (Addr.add _ _).block ≠ _; rw [add_block]; exact hn163_1) | exact hn163_1) (.int .i64 ((rd_T55 l0 x15_2).f1))).trans hx163_0; replace hx163_1 := (cell_far (p := ⟨gb160, 1, none⟩) (by first | (rw [add_block]; exact hn163_1) | (show (Addr.add _ _).block ≠ _; rw [add_block]; exact hn163_1) | exact hn163_1) (.int .i64 ((rd_T55 l0 x15_2).f1))).trans hx163_1; replace hx163_2 := (cell_far (p := ⟨gb160, 1, none⟩) (by first | (rw [add_block]; exact hn163_1) | (show (Addr.add _ _).block ≠ _; rw [add_block]; exact hn163_1) | exact hn163_1) (.int .i64 ((rd_T55 l0 x15_2).f1))).trans hx163_2; replace hx163_0 := (cell_far (p := ⟨gb160, 2, none⟩) (by first | (rw [add_block]; exact hn163_2) | (show (Addr.add _ _).block ≠ _; rw [add_block]; exact hn163_2) | exact hn163_2) (.int .i64 ((rd_T55 l0 x15_2).f2))).trans hx163_0; replace hx163_1 := (cell_far (p := ⟨gb160, 2, none⟩) (by first | (rw [add_block]; exact hn163_2) | (show (Addr.add _ _).block ≠ _; rw [add_block]; exact hn163_2) | exact hn163_2) (.int .i64 ((rd_T55 l0 x15_2).f2))).trans hx163_1; replace hx163_2 := (cell_far (p := ⟨gb160, 2, none⟩) (by first | (rw [add_block]; exact hn163_2) | (show (Addr.add _ _).block ≠ _; rw [add_block]; exact hn163_2) | exact hn163_2) (.int .i64 ((rd_T55 l0 x15_2).f2))).trans hx163_2; (try have hy163_0 := fun (n_ : Nat) => (show (((((w19.drewN n_).setCell ⟨gb160, 0, none⟩ (.int .i64 ((rd_T55 l0 x15_2).f0))).setCell ⟨gb160, 1, none⟩ (.int .i64 ((rd_T55 l0 x15_2).f1))).setCell ⟨gb160, 2, none⟩ (.int .i64 ((rd_T55 l0 x15_2).f2)))).cell? _ = some _ from hx163_0)); (try have hy163_1 := fun (n_ : Nat) => (show (((((w19.drewN n_).setCell ⟨gb160, 0, none⟩ (.int .i64 ((rd_T55 l0 x15_2).f0))).setCell ⟨gb160, 1, none⟩ (.int .i64 ((rd_T55 l0 x15_2).f1))).setCell ⟨gb160, 2, none⟩ (.int .i64 ((rd_T55 l0 x15_2).f2)))).cell? _ = some _ from hx163_1)); (try have hy163_2 := fun (n_ : Nat) => (show (((((w19.drewN n_).setCell ⟨gb160, 0, none⟩ (.int .i64 ((rd_T55 l0 x15_2).f0))).setCell ⟨gb160, 1, none⟩ (.int .i64 ((rd_T55 l0 x15_2).f1))).setCell ⟨gb160, 2, none⟩ (.int .i64 ((rd_T55 l0 x15_2).f2)))).cell? _ = some _ from hx163_2)); (try have hy163_0_1 := fun (n_ : Nat) => (show (((((w19.setCell ⟨gb160, 0, none⟩ (.int .i64 ((rd_T55 l0 x15_2).f0))).drewN n_).setCell ⟨gb160, 1, none⟩ (.int .i64 ((rd_T55 l0 x15_2).f1))).setCell ⟨gb160, 2, none⟩ (.int .i64 ((rd_T55 l0 x15_2).f2)))).cell? _ = some _ from hx163_0)); (try have hy163_1_1 := fun (n_ : Nat) => (show (((((w19.setCell ⟨gb160, 0, none⟩ (.int .i64 ((rd_T55 l0 x15_2).f0))).drewN n_).setCell ⟨gb160, 1, none⟩ (.int .i64 ((rd_T55 l0 x15_2).f1))).setCell ⟨gb160, 2, none⟩ (.int .i64 ((rd_T55 l0 x15_2).f2)))).cell? _ = some _ from hx163_1)); (try have hy163_2_1 := fun (n_ : Nat) => (show (((((w19.setCell ⟨gb160, 0, none⟩ (.int .i64 ((rd_T55 l0 x15_2).f0))).drewN n_).setCell ⟨gb160, 1, none⟩ (.int .i64 ((rd_T55 l0 x15_2).f1))).setCell ⟨gb160, 2, none⟩ (.int .i64 ((rd_T55 l0 x15_2).f2)))).cell? _ = some _ from hx163_2)); (try have hy163_0_2 := fun (n_ : Nat) => (show (((((w19.setCell ⟨gb160, 0, none⟩ (.int .i64 ((rd_T55 l0 x15_2).f0))).setCell ⟨gb160, 1, none⟩ (.int .i64 ((rd_T55 l0 x15_2).f1))).drewN n_).setCell ⟨gb160, 2, none⟩ (.int .i64 ((rd_T55 l0 x15_2).f2)))).cell? _ = some _ from hx163_0)); (try have hy163_1_2 := fun (n_ : Nat) => (show (((((w19.setCell ⟨gb160, 0, none⟩ (.int .i64 ((rd_T55 l0 x15_2).f0))).setCell ⟨gb160, 1, none⟩ (.int .i64 ((rd_T55 l0 x15_2).f1))).drewN n_).setCell ⟨gb160, 2, none⟩ (.int .i64 ((rd_T55 l0 x15_2).f2)))).cell? _ = some _ from hx163_1)); (try have hy163_2_2 := fun (n_ : Nat) => (show (((((w19.setCell ⟨gb160, 0, none⟩ (.int .i64 ((rd_T55 l0 x15_2).f0))).setCell ⟨gb160, 1, none⟩ (.int .i64 ((rd_T55 l0 x15_2).f1))).drewN n_).setCell ⟨gb160, 2, none⟩ (.int .i64 ((rd_T55 l0 x15_2).f2)))).cell? _ = some _ from hx163_2)); (try have hy163_0_3 := fun (n_ : Nat) => (show (((((w19.setCell ⟨gb160, 0, none⟩ (.int .i64 ((rd_T55 l0 x15_2).f0))).setCell ⟨gb160, 1, none⟩ (.int .i64 ((rd_T55 l0 x15_2).f1))).setCell ⟨gb160, 2, none⟩ (.int .i64 ((rd_T55 l0 x15_2).f2))).drewN n_)).cell? _ = some _ from hx163_0)); (try have hy163_1_3 := fun (n_ : Nat) => (show (((((w19.setCell ⟨gb160, 0, none⟩ (.int .i64 ((rd_T55 l0 x15_2).f0))).setCell ⟨gb160, 1, none⟩ (.int .i64 ((rd_T55 l0 x15_2).f1))).setCell ⟨gb160, 2, none⟩ (.int .i64 ((rd_T55 l0 x15_2).f2))).drewN n_)).cell? _ = some _ from hx163_1)); (try have hy163_2_3 := fun (n_ : Nat) => (show (((((w19.setCell ⟨gb160, 0, none⟩ (.int .i64 ((rd_T55 l0 x15_2).f0))).setCell ⟨gb160, 1, none⟩ (.int .i64 ((rd_T55 l0 x15_2).f1))).setCell ⟨gb160, 2, none⟩ (.int .i64 ((rd_T55 l0 x15_2).f2))).drewN n_)).cell? _ = some _ from hx163_2)); clear hn163_0; clear hn163_1; clear hn163_2; replace p163 := eq_true p163; replace q163 := eq_true q163))
                              repeat (go_quiet (first | ((with_reducible refine gate_dst (N := 4) rfl ?_); (try (refine gate_guard (by rfl) ?_; dsimp only)); refine box_event ?hg (N := 4) ?hd (cs := #[.int .i64 0, .int .i64 0, .int .i64 0]) (t := 55) ?hr ?_; (case hd => rfl); (case hg => rfl); (case hr => first | (go_simp; done) | (go_simp; rfl)); intro gb160 hg w19 hbox hb; have n0_ := Aside0.mk (below_step (by repeat (first | (with_reducible first | exact HB.out | apply below_alloc | apply pw_below_drewN | apply below_drew1) | exact HB.out)) hb); have n1_ := Aside0.mk (hbox); have n2_ := Aside0.mk ((by rw [hg]; exact (below_size (by repeat (first | (with_reducible first | exact HB.out | apply below_alloc | apply pw_below_drewN | apply below_drew1) | exact HB.out))) : w.heap.size ≤ gb160)); have n3_ := Aside0.mk ((by rw [hg]; exact (below_size (by repeat (first | (with_reducible first | exact HB.out | apply below_alloc | apply pw_below_drewN | apply below_drew1) | exact HB.out))) : w.heap.size ≤ gb160)); clear HB; have HB := n0_; have BK160 := n1_; have GW160 := n2_; have GE160 := n3_; clear n0_ n1_ n2_ n3_; clear hb hbox hg; have hcz20_0 : w19.cell? ⟨gb160, 0, none⟩ = some (.int .i64 0) := (blk_cell BK160.out 0).trans rfl; have hcz20_1 : w19.cell? ⟨gb160, 1, none⟩ = some (.int .i64 0) := (blk_cell BK160.out 1).trans rfl; have hcz20_2 : w19.cell? ⟨gb160, 2, none⟩ = some (.int .i64 0) := (blk_cell BK160.out 2).trans rfl; have hfz20_0 := blk_frozen BK160.out 0; have hfz20_1 := blk_frozen BK160.out 1; have hfz20_2 := blk_frozen BK160.out 2) | (go_at_call 51; (with_reducible refine (impl_within.calls ((rd_T55 l0 x15_2).f0) 1 1000000 true _ A8.out).mono ?_); rintro e w' ⟨rfl, ⟨nd, rfl⟩⟩; (try first | exact ⟨rfl, _, World.drewN_drewN _ _ _⟩ | exact ⟨rfl, _, Eq.trans (World.drewN_drewN _ _ _) (congrArg (World.drewN _) (Nat.add_assoc _ _ _))⟩)) | (go_at_call 52; (with_reducible refine (impl_areWinds.calls ((rd_T55 l0 x15_2).f1) ((rd_T55 l0 x15_2).f2) true _ A10.out).mono ?_); rintro e w' ⟨rfl, ⟨nd, rfl⟩⟩; (try first | exact ⟨rfl, _, World.drewN_drewN _ _ _⟩ | exact ⟨rfl, _, Eq.trans (World.drewN_drewN _ _ _) (congrArg (World.drewN _) (Nat.add_assoc _ _ _))⟩); have p163 : 0 ≤ ((ji13) : Int) := of_decide_eq_true (by first | (with_reducible assumption) | assumption); have q163 : (ji13) < (l0.length : Int) := of_decide_eq_true (by first | (with_reducible assumption) | assumption); obtain ⟨ad163, e163, hx163_0, hx163_1, hx163_2⟩ := at_T55 HR0.out (ji13) p163 q163; obtain rfl : ad159 = ad163 := (by injection e163); have hn163_0 : ad159.block ≠ gb160 := Nat.ne_of_lt (Nat.lt_of_lt_of_le (by have := World.block_lt_of_cell? _ _ hx163_0; first | rwa [add_block] at this | exact this) GW160.out); have hn163_1 : ad159.block ≠ gb160 := Nat.ne_of_lt (Nat.lt_of_lt_of_le (by have := World.block_lt_of_cell? _ _ hx163_0; first | rwa [add_block] at this | exact this) GW160.out); have hn163_2 : ad159.block ≠ gb160 := Nat.ne_of_lt (Nat.lt_of_lt_of_le (by have := World.block_lt_of_cell? _ _ hx163_0; first | rwa [add_block] at this | exact this) GW160.out); replace hx163_0 := (HB.out.cell (World.block_lt_of_cell? _ _ hx163_0)).trans hx163_0; replace hx163_1 := (HB.out.cell (World.block_lt_of_cell? _ _ hx163_1)).trans hx163_1; replace hx163_2 := (HB.out.cell (World.block_lt_of_cell? _ _ hx163_2)).trans hx163_2; replace hx163_0 := (cell_far (p := ⟨gb160, 0, none⟩) (by first | (rw [add_block]; exact hn163_0) | (show (Addr.add _ _).block ≠ _; rw [add_block]; exact hn163_0) | exact hn163_0) (.int .i64 ((rd_T55 l0 x15_2).f0))).trans hx163_0; replace hx163_1 := (cell_far (p := ⟨gb160, 0, none⟩) (by first | (rw [add_block]; exact hn163_0) | (show (Addr.add _ _).block ≠ _; rw [add_block]; exact hn163_0) | exact hn163_0) (.int .i64 ((rd_T55 l0 x15_2).f0))).trans hx163_1; replace hx163_2 := (cell_far (p := ⟨gb160, 0, none⟩) (by first | (rw [add_block]; exact hn163_0) | (show (Addr.add _ _).block ≠ _; rw [add_block]; exact hn163_0) | exact hn163_0) (.int .i64 ((rd_T55 l0 x15_2).f0))).trans hx163_2; replace hx163_0 := (cell_far (p := ⟨gb160, 1, none⟩) (by first | (rw [add_block]; exact hn163_1) | (show (Addr.add _ _).block ≠ _; rw [add_block]; exact hn163_1) | exact hn163_1) (.int .i64 ((rd_T55 l0 x15_2).f1))).trans hx163_0; replace hx163_1 := (cell_far (p := ⟨gb160, 1, none⟩) (by first | (rw [add_block]; exact hn163_1) | (show (Addr.add _ _).block ≠ _; rw [add_block]; exact hn163_1) | exact hn163_1) (.int .i64 ((rd_T55 l0 x15_2).f1))).trans hx163_1; replace hx163_2 := (cell_far (p := ⟨gb160, 1, none⟩) (by first | (rw [add_block]; exact hn163_1) | (show (Addr.add _ _).block ≠ _; rw [add_block]; exact hn163_1) | exact hn163_1) (.int .i64 ((rd_T55 l0 x15_2).f1))).trans hx163_2; replace hx163_0 := (cell_far (p := ⟨gb160, 2, none⟩) (by first | (rw [add_block]; exact hn163_2) | (show (Addr.add _ _).block ≠ _; rw [add_block]; exact hn163_2) | exact hn163_2) (.int .i64 ((rd_T55 l0 x15_2).f2))).trans hx163_0; replace hx163_1 := (cell_far (p := ⟨gb160, 2, none⟩) (by first | (rw [add_block]; exact hn163_2) | (show (Addr.add _ _).block ≠ _; rw [add_block]; exact hn163_2) | exact hn163_2) (.int .i64 ((rd_T55 l0 x15_2).f2))).trans hx163_1; replace hx163_2 := (cell_far (p := ⟨gb160, 2, none⟩) (by first | (rw [add_block]; exact hn163_2) | (show (Addr.add _ _).block ≠ _; rw [add_block]; exact hn163_2) | exact hn163_2) (.int .i64 ((rd_T55 l0 x15_2).f2))).trans hx163_2; (try have hy163_0 := fun (n_ : Nat) => (show (((((w19.drewN n_).setCell ⟨gb160, 0, none⟩ (.int .i64 ((rd_T55 l0 x15_2).f0))).setCell ⟨gb160, 1, none⟩ (.int .i64 ((rd_T55 l0 x15_2).f1))).setCell ⟨gb160, 2, none⟩ (.int .i64 ((rd_T55 l0 x15_2).f2)))).cell? _ = some _ from hx163_0)); (try have hy163_1 := fun (n_ : Nat) => (show (((((w19.drewN n_).setCell ⟨gb160, 0, none⟩ (.int .i64 ((rd_T55 l0 x15_2).f0))).setCell ⟨gb160, 1, none⟩ (.int .i64 ((rd_T55 l0 x15_2).f1))).setCell ⟨gb160, 2, none⟩ (.int .i64 ((rd_T55 l0 x15_2).f2)))).cell? _ = some _ from hx163_1)); (try have hy163_2 := fun (n_ : Nat) => (show (((((w19.drewN n_).setCell ⟨gb160, 0, none⟩ (.int .i64 ((rd_T55 l0 x15_2).f0))).setCell ⟨gb160, 1, none⟩ (.int .i64 ((rd_T55 l0 x15_2).f1))).setCell ⟨gb160, 2, none⟩ (.int .i64 ((rd_T55 l0 x15_2).f2)))).cell? _ = some _ from hx163_2)); (try have hy163_0_1 := fun (n_ : Nat) => (show (((((w19.setCell ⟨gb160, 0, none⟩ (.int .i64 ((rd_T55 l0 x15_2).f0))).drewN n_).setCell ⟨gb160, 1, none⟩ (.int .i64 ((rd_T55 l0 x15_2).f1))).setCell ⟨gb160, 2, none⟩ (.int .i64 ((rd_T55 l0 x15_2).f2)))).cell? _ = some _ from hx163_0)); (try have hy163_1_1 := fun (n_ : Nat) => (show (((((w19.setCell ⟨gb160, 0, none⟩ (.int .i64 ((rd_T55 l0 x15_2).f0))).drewN n_).setCell ⟨gb160, 1, none⟩ (.int .i64 ((rd_T55 l0 x15_2).f1))).setCell ⟨gb160, 2, none⟩ (.int .i64 ((rd_T55 l0 x15_2).f2)))).cell? _ = some _ from hx163_1)); (try have hy163_2_1 := fun (n_ : Nat) => (show (((((w19.setCell ⟨gb160, 0, none⟩ (.int .i64 ((rd_T55 l0 x15_2).f0))).drewN n_).setCell ⟨gb160, 1, none⟩ (.int .i64 ((rd_T55 l0 x15_2).f1))).setCell ⟨gb160, 2, none⟩ (.int .i64 ((rd_T55 l0 x15_2).f2)))).cell? _ = some _ from hx163_2)); (try have hy163_0_2 := fun (n_ : Nat) => (show (((((w19.setCell ⟨gb160, 0, none⟩ (.int .i64 ((rd_T55 l0 x15_2).f0))).setCell ⟨gb160, 1, none⟩ (.int .i64 ((rd_T55 l0 x15_2).f1))).drewN n_).setCell ⟨gb160, 2, none⟩ (.int .i64 ((rd_T55 l0 x15_2).f2)))).cell? _ = some _ from hx163_0)); (try have hy163_1_2 := fun (n_ : Nat) => (show (((((w19.setCell ⟨gb160, 0, none⟩ (.int .i64 ((rd_T55 l0 x15_2).f0))).setCell ⟨gb160, 1, none⟩ (.int .i64 ((rd_T55 l0 x15_2).f1))).drewN n_).setCell ⟨gb160, 2, none⟩ (.int .i64 ((rd_T55 l0 x15_2).f2)))).cell? _ = some _ from hx163_1)); (try have hy163_2_2 := fun (n_ : Nat) => (show (((((w19.setCell ⟨gb160, 0, none⟩ (.int .i64 ((rd_T55 l0 x15_2).f0))).setCell ⟨gb160, 1, none⟩ (.int .i64 ((rd_T55 l0 x15_2).f1))).drewN n_).setCell ⟨gb160, 2, none⟩ (.int .i64 ((rd_T55 l0 x15_2).f2)))).cell? _ = some _ from hx163_2)); (try have hy163_0_3 := fun (n_ : Nat) => (show (((((w19.setCell ⟨gb160, 0, none⟩ (.int .i64 ((rd_T55 l0 x15_2).f0))).setCell ⟨gb160, 1, none⟩ (.int .i64 ((rd_T55 l0 x15_2).f1))).setCell ⟨gb160, 2, none⟩ (.int .i64 ((rd_T55 l0 x15_2).f2))).drewN n_)).cell? _ = some _ from hx163_0)); (try have hy163_1_3 := fun (n_ : Nat) => (show (((((w19.setCell ⟨gb160, 0, none⟩ (.int .i64 ((rd_T55 l0 x15_2).f0))).setCell ⟨gb160, 1, none⟩ (.int .i64 ((rd_T55 l0 x15_2).f1))).setCell ⟨gb160, 2, none⟩ (.int .i64 ((rd_T55 l0 x15_2).f2))).drewN n_)).cell? _ = some _ from hx163_1)); (try have hy163_2_3 := fun (n_ : Nat) => (show (((((w19.setCell ⟨gb160, 0, none⟩ (.int .i64 ((rd_T55 l0 x15_2).f0))).setCell ⟨gb160, 1, none⟩ (.int .i64 ((rd_T55 l0 x15_2).f1))).setCell ⟨gb160, 2, none⟩ (.int .i64 ((rd_T55 l0 x15_2).f2))).drewN n_)).cell? _ = some _ from hx163_2)); clear hn163_0; clear hn163_1; clear hn163_2; replace p163 := eq_true p163; replace q163 := eq_true q163)); try go_wp2_with (first | ((with_reducible refine gate_dst (N := 4) rfl ?_); (try (refine gate_guard (by rfl) ?_; dsimp only)); refine box_event ?hg (N := 4) ?hd (cs := #[.int .i64 0, .int .i64 0, .int .i64 0]) (t := 55) ?hr ?_; (case hd => rfl); (case hg => rfl); (case hr => first | (go_simp; done) | (go_simp; rfl)); intro gb160 hg w19 hbox hb; have n0_ := Aside0.mk (below_step (by repeat (first | (with_reducible first | exact HB.out | apply below_alloc | apply pw_below_drewN | apply below_drew1) | exact HB.out)) hb); have n1_ := Aside0.mk (hbox); have n2_ := Aside0.mk ((by rw [hg]; exact (below_size (by repeat (first | (with_reducible first | exact HB.out | apply below_alloc | apply pw_below_drewN | apply below_drew1) | exact HB.out))) : w.heap.size ≤ gb160)); have n3_ := Aside0.mk ((by rw [hg]; exact (below_size (by repeat (first | (with_reducible first | exact HB.out | apply below_alloc | apply pw_below_drewN | apply below_drew1) | exact HB.out))) : w.heap.size ≤ gb160)); clear HB; have HB := n0_; have BK160 := n1_; have GW160 := n2_; have GE160 := n3_; clear n0_ n1_ n2_ n3_; clear hb hbox hg; have hcz20_0 : w19.cell? ⟨gb160, 0, none⟩ = some (.int .i64 0) := (blk_cell BK160.out 0).trans rfl; have hcz20_1 : w19.cell? ⟨gb160, 1, none⟩ = some (.int .i64 0) := (blk_cell BK160.out 1).trans rfl; have hcz20_2 : w19.cell? ⟨gb160, 2, none⟩ = some (.int .i64 0) := (blk_cell BK160.out 2).trans rfl; have hfz20_0 := blk_frozen BK160.out 0; have hfz20_1 := blk_frozen BK160.out 1; have hfz20_2 := blk_frozen BK160.out 2) | (go_at_call 51; (with_reducible refine (impl_within.calls ((rd_T55 l0 x15_2).f0) 1 1000000 true _ A8.out).mono ?_); rintro e w' ⟨rfl, ⟨nd, rfl⟩⟩; (try first | exact ⟨rfl, _, World.drewN_drewN _ _ _⟩ | exact ⟨rfl, _, Eq.trans (World.drewN_drewN _ _ _) (congrArg (World.drewN _) (Nat.add_assoc _ _ _))⟩)) | (go_at_call 52; (with_reducible refine (impl_areWinds.calls ((rd_T55 l0 x15_2).f1) ((rd_T55 l0 x15_2).f2) true _ A10.out).mono ?_); rintro e w' ⟨rfl, ⟨nd, rfl⟩⟩; (try first | exact ⟨rfl, _, World.drewN_drewN _ _ _⟩ | exact ⟨rfl, _, Eq.trans (World.drewN_drewN _ _ _) (congrArg (World.drewN _) (Nat.add_assoc _ _ _))⟩); have p163 : 0 ≤ ((ji13) : Int) := of_decide_eq_true (by first | (with_reducible assumption) | assumption); have q163 : (ji13) < (l0.length : Int) := of_decide_eq_true (by first | (with_reducible assumption) | assumption); obtain ⟨ad163, e163, hx163_0, hx163_1, hx163_2⟩ := at_T55 HR0.out (ji13) p163 q163; obtain rfl : ad159 = ad163 := (by injection e163); have hn163_0 : ad159.block ≠ gb160 := Nat.ne_of_lt (Nat.lt_of_lt_of_le (by have := World.block_lt_of_cell? _ _ hx163_0; first | rwa [add_block] at this | exact this) GW160.out); have hn163_1 : ad159.block ≠ gb160 := Nat.ne_of_lt (Nat.lt_of_lt_of_le (by have := World.block_lt_of_cell? _ _ hx163_0; first | rwa [add_block] at this | exact this) GW160.out); have hn163_2 : ad159.block ≠ gb160 := Nat.ne_of_lt (Nat.lt_of_lt_of_le (by have := World.block_lt_of_cell? _ _ hx163_0; first | rwa [add_block] at this | exact this) GW160.out); replace hx163_0 := (HB.out.cell (World.block_lt_of_cell? _ _ hx163_0)).trans hx163_0; replace hx163_1 := (HB.out.cell (World.block_lt_of_cell? _ _ hx163_1)).trans hx163_1; replace hx163_2 := (HB.out.cell (World.block_lt_of_cell? _ _ hx163_2)).trans hx163_2; replace hx163_0 := (cell_far (p := ⟨gb160, 0, none⟩) (by first | (rw [add_block]; exact hn163_0) | (show (Addr.add _ _).block ≠ _; rw [add_block]; exact hn163_0) | exact hn163_0) (.int .i64 ((rd_T55 l0 x15_2).f0))).trans hx163_0; replace hx163_1 := (cell_far (p := ⟨gb160, 0, none⟩) (by first | (rw [add_block]; exact hn163_0) | (show (Addr.add _ _).block ≠ _; rw [add_block]; exact hn163_0) | exact hn163_0) (.int .i64 ((rd_T55 l0 x15_2).f0))).trans hx163_1; replace hx163_2 := (cell_far (p := ⟨gb160, 0, none⟩) (by first | (rw [add_block]; exact hn163_0) | (show (Addr.add _ _).block ≠ _; rw [add_block]; exact hn163_0) | exact hn163_0) (.int .i64 ((rd_T55 l0 x15_2).f0))).trans hx163_2; replace hx163_0 := (cell_far (p := ⟨gb160, 1, none⟩) (by first | (rw [add_block]; exact hn163_1) | (show (Addr.add _ _).block ≠ _; rw [add_block]; exact hn163_1) | exact hn163_1) (.int .i64 ((rd_T55 l0 x15_2).f1))).trans hx163_0; replace hx163_1 := (cell_far (p := ⟨gb160, 1, none⟩) (by first | (rw [add_block]; exact hn163_1) | (show (Addr.add _ _).block ≠ _; rw [add_block]; exact hn163_1) | exact hn163_1) (.int .i64 ((rd_T55 l0 x15_2).f1))).trans hx163_1; replace hx163_2 := (cell_far (p := ⟨gb160, 1, none⟩) (by first | (rw [add_block]; exact hn163_1) | (show (Addr.add _ _).block ≠ _; rw [add_block]; exact hn163_1) | exact hn163_1) (.int .i64 ((rd_T55 l0 x15_2).f1))).trans hx163_2; replace hx163_0 := (cell_far (p := ⟨gb160, 2, none⟩) (by first | (rw [add_block]; exact hn163_2) | (show (Addr.add _ _).block ≠ _; rw [add_block]; exact hn163_2) | exact hn163_2) (.int .i64 ((rd_T55 l0 x15_2).f2))).trans hx163_0; replace hx163_1 := (cell_far (p := ⟨gb160, 2, none⟩) (by first | (rw [add_block]; exact hn163_2) | (show (Addr.add _ _).block ≠ _; rw [add_block]; exact hn163_2) | exact hn163_2) (.int .i64 ((rd_T55 l0 x15_2).f2))).trans hx163_1; replace hx163_2 := (cell_far (p := ⟨gb160, 2, none⟩) (by first | (rw [add_block]; exact hn163_2) | (show (Addr.add _ _).block ≠ _; rw [add_block]; exact hn163_2) | exact hn163_2) (.int .i64 ((rd_T55 l0 x15_2).f2))).trans hx163_2; (try have hy163_0 := fun (n_ : Nat) => (show (((((w19.drewN n_).setCell ⟨gb160, 0, none⟩ (.int .i64 ((rd_T55 l0 x15_2).f0))).setCell ⟨gb160, 1, none⟩ (.int .i64 ((rd_T55 l0 x15_2).f1))).setCell ⟨gb160, 2, none⟩ (.int .i64 ((rd_T55 l0 x15_2).f2)))).cell? _ = some _ from hx163_0)); (try have hy163_1 := fun (n_ : Nat) => (show (((((w19.drewN n_).setCell ⟨gb160, 0, none⟩ (.int .i64 ((rd_T55 l0 x15_2).f0))).setCell ⟨gb160, 1, none⟩ (.int .i64 ((rd_T55 l0 x15_2).f1))).setCell ⟨gb160, 2, none⟩ (.int .i64 ((rd_T55 l0 x15_2).f2)))).cell? _ = some _ from hx163_1)); (try have hy163_2 := fun (n_ : Nat) => (show (((((w19.drewN n_).setCell ⟨gb160, 0, none⟩ (.int .i64 ((rd_T55 l0 x15_2).f0))).setCell ⟨gb160, 1, none⟩ (.int .i64 ((rd_T55 l0 x15_2).f1))).setCell ⟨gb160, 2, none⟩ (.int .i64 ((rd_T55 l0 x15_2).f2)))).cell? _ = some _ from hx163_2)); (try have hy163_0_1 := fun (n_ : Nat) => (show (((((w19.setCell ⟨gb160, 0, none⟩ (.int .i64 ((rd_T55 l0 x15_2).f0))).drewN n_).setCell ⟨gb160, 1, none⟩ (.int .i64 ((rd_T55 l0 x15_2).f1))).setCell ⟨gb160, 2, none⟩ (.int .i64 ((rd_T55 l0 x15_2).f2)))).cell? _ = some _ from hx163_0)); (try have hy163_1_1 := fun (n_ : Nat) => (show (((((w19.setCell ⟨gb160, 0, none⟩ (.int .i64 ((rd_T55 l0 x15_2).f0))).drewN n_).setCell ⟨gb160, 1, none⟩ (.int .i64 ((rd_T55 l0 x15_2).f1))).setCell ⟨gb160, 2, none⟩ (.int .i64 ((rd_T55 l0 x15_2).f2)))).cell? _ = some _ from hx163_1)); (try have hy163_2_1 := fun (n_ : Nat) => (show (((((w19.setCell ⟨gb160, 0, none⟩ (.int .i64 ((rd_T55 l0 x15_2).f0))).drewN n_).setCell ⟨gb160, 1, none⟩ (.int .i64 ((rd_T55 l0 x15_2).f1))).setCell ⟨gb160, 2, none⟩ (.int .i64 ((rd_T55 l0 x15_2).f2)))).cell? _ = some _ from hx163_2)); (try have hy163_0_2 := fun (n_ : Nat) => (show (((((w19.setCell ⟨gb160, 0, none⟩ (.int .i64 ((rd_T55 l0 x15_2).f0))).setCell ⟨gb160, 1, none⟩ (.int .i64 ((rd_T55 l0 x15_2).f1))).drewN n_).setCell ⟨gb160, 2, none⟩ (.int .i64 ((rd_T55 l0 x15_2).f2)))).cell? _ = some _ from hx163_0)); (try have hy163_1_2 := fun (n_ : Nat) => (show (((((w19.setCell ⟨gb160, 0, none⟩ (.int .i64 ((rd_T55 l0 x15_2).f0))).setCell ⟨gb160, 1, none⟩ (.int .i64 ((rd_T55 l0 x15_2).f1))).drewN n_).setCell ⟨gb160, 2, none⟩ (.int .i64 ((rd_T55 l0 x15_2).f2)))).cell? _ = some _ from hx163_1)); (try have hy163_2_2 := fun (n_ : Nat) => (show (((((w19.setCell ⟨gb160, 0, none⟩ (.int .i64 ((rd_T55 l0 x15_2).f0))).setCell ⟨gb160, 1, none⟩ (.int .i64 ((rd_T55 l0 x15_2).f1))).drewN n_).setCell ⟨gb160, 2, none⟩ (.int .i64 ((rd_T55 l0 x15_2).f2)))).cell? _ = some _ from hx163_2)); (try have hy163_0_3 := fun (n_ : Nat) => (show (((((w19.setCell ⟨gb160, 0, none⟩ (.int .i64 ((rd_T55 l0 x15_2).f0))).setCell ⟨gb160, 1, none⟩ (.int .i64 ((rd_T55 l0 x15_2).f1))).setCell ⟨gb160, 2, none⟩ (.int .i64 ((rd_T55 l0 x15_2).f2))).drewN n_)).cell? _ = some _ from hx163_0)); (try have hy163_1_3 := fun (n_ : Nat) => (show (((((w19.setCell ⟨gb160, 0, none⟩ (.int .i64 ((rd_T55 l0 x15_2).f0))).setCell ⟨gb160, 1, none⟩ (.int .i64 ((rd_T55 l0 x15_2).f1))).setCell ⟨gb160, 2, none⟩ (.int .i64 ((rd_T55 l0 x15_2).f2))).drewN n_)).cell? _ = some _ from hx163_1)); (try have hy163_2_3 := fun (n_ : Nat) => (show (((((w19.setCell ⟨gb160, 0, none⟩ (.int .i64 ((rd_T55 l0 x15_2).f0))).setCell ⟨gb160, 1, none⟩ (.int .i64 ((rd_T55 l0 x15_2).f1))).setCell ⟨gb160, 2, none⟩ (.int .i64 ((rd_T55 l0 x15_2).f2))).drewN n_)).cell? _ = some _ from hx163_2)); clear hn163_0; clear hn163_1; clear hn163_2; replace p163 := eq_true p163; replace q163 := eq_true q163)))
                              go_roundg k2
                              case measure => have := HJ1.out; have := HK2.out; omega
                              case rel => exact ⟨(wrap64 (x15_2 + 1)), (by first | rfl | (simp; done) | (simp [*]; done)), (by first | exact H' | (simp only [hji13]; exact H') | (have H2_ := H'; simp only [← hji13] at H2_; exact H2_)), ⟨by have := HJ1.out; have := HK2.out; omega⟩, ⟨by repeat (first | (with_reducible first | exact HB.out | apply below_alloc | apply pw_below_drewN | apply below_drew1 | refine below_set ?_ GE160.out) | exact HB.out)⟩⟩
                          · rw [if_neg c15] at H
                            exact absurd H (by simp)
                        · rw [if_neg c14] at H
                          exact absurd H (by simp)
                      · rw [if_neg c12] at H
                        have c12b0 : decide (0 < x15_2) = false := decide_eq_false c12
                        clear c12
                        have H' := Aside0.mk H
                        clear H
                        have p159 : 0 ≤ (x15_2 : Int) := of_decide_eq_true (by first | (with_reducible assumption) | assumption)
                        have q159 : x15_2 < (l0.length : Int) := of_decide_eq_true (by first | (with_reducible assumption) | assumption)
                        obtain ⟨ad159, e159, hx159_0, hx159_1, hx159_2⟩ := at_T55 HR0.out x15_2 p159 q159
                        cases e159
                        replace hx159_0 := (HB.out.cell (World.block_lt_of_cell? _ _ hx159_0)).trans hx159_0
                        replace hx159_1 := (HB.out.cell (World.block_lt_of_cell? _ _ hx159_1)).trans hx159_1
                        replace hx159_2 := (HB.out.cell (World.block_lt_of_cell? _ _ hx159_2)).trans hx159_2
                        replace p159 := eq_true p159
                        replace q159 := eq_true q159
                        go_wp2_with (first | ((with_reducible refine gate_dst (N := 4) rfl ?_); (try (refine gate_guard (by rfl) ?_; dsimp only)); refine box_event ?hg (N := 4) ?hd (cs := #[.int .i64 0, .int .i64 0, .int .i64 0]) (t := 55) ?hr ?_; (case hd => rfl); (case hg => rfl); (case hr => first | (go_simp; done) | (go_simp; rfl)); intro gb160 hg w21 hbox hb; have n0_ := Aside0.mk (below_step (by repeat (first | (with_reducible first | exact HB.out | apply below_alloc | apply pw_below_drewN | apply below_drew1) | exact HB.out)) hb); have n1_ := Aside0.mk (hbox); have n2_ := Aside0.mk ((by rw [hg]; exact (below_size (by repeat (first | (with_reducible first | exact HB.out | apply below_alloc | apply pw_below_drewN | apply below_drew1) | exact HB.out))) : w.heap.size ≤ gb160)); have n3_ := Aside0.mk ((by rw [hg]; exact (below_size (by repeat (first | (with_reducible first | exact HB.out | apply below_alloc | apply pw_below_drewN | apply below_drew1) | exact HB.out))) : w.heap.size ≤ gb160)); clear HB; have HB := n0_; have BK160 := n1_; have GW160 := n2_; have GE160 := n3_; clear n0_ n1_ n2_ n3_; clear hb hbox hg; have hcz22_0 : w21.cell? ⟨gb160, 0, none⟩ = some (.int .i64 0) := (blk_cell BK160.out 0).trans rfl; have hcz22_1 : w21.cell? ⟨gb160, 1, none⟩ = some (.int .i64 0) := (blk_cell BK160.out 1).trans rfl; have hcz22_2 : w21.cell? ⟨gb160, 2, none⟩ = some (.int .i64 0) := (blk_cell BK160.out 2).trans rfl; have hfz22_0 := blk_frozen BK160.out 0; have hfz22_1 := blk_frozen BK160.out 1; have hfz22_2 := blk_frozen BK160.out 2) | (go_at_call 51; (with_reducible refine (impl_within.calls ((rd_T55 l0 x15_2).f0) 1 1000000 true _ A8.out).mono ?_); rintro e w' ⟨rfl, ⟨nd, rfl⟩⟩; (try first | exact ⟨rfl, _, World.drewN_drewN _ _ _⟩ | exact ⟨rfl, _, Eq.trans (World.drewN_drewN _ _ _) (congrArg (World.drewN _) (Nat.add_assoc _ _ _))⟩)) | (go_at_call 52; (with_reducible refine (impl_areWinds.calls ((rd_T55 l0 x15_2).f1) ((rd_T55 l0 x15_2).f2) true _ A10.out).mono ?_); rintro e w' ⟨rfl, ⟨nd, rfl⟩⟩; (try first | exact ⟨rfl, _, World.drewN_drewN _ _ _⟩ | exact ⟨rfl, _, Eq.trans (World.drewN_drewN _ _ _) (congrArg (World.drewN _) (Nat.add_assoc _ _ _))⟩)))
                        repeat (go_quiet (first | ((with_reducible refine gate_dst (N := 4) rfl ?_); (try (refine gate_guard (by rfl) ?_; dsimp only)); refine box_event ?hg (N := 4) ?hd (cs := #[.int .i64 0, .int .i64 0, .int .i64 0]) (t := 55) ?hr ?_; (case hd => rfl); (case hg => rfl); (case hr => first | (go_simp; done) | (go_simp; rfl)); intro gb160 hg w21 hbox hb; have n0_ := Aside0.mk (below_step (by repeat (first | (with_reducible first | exact HB.out | apply below_alloc | apply pw_below_drewN | apply below_drew1) | exact HB.out)) hb); have n1_ := Aside0.mk (hbox); have n2_ := Aside0.mk ((by rw [hg]; exact (below_size (by repeat (first | (with_reducible first | exact HB.out | apply below_alloc | apply pw_below_drewN | apply below_drew1) | exact HB.out))) : w.heap.size ≤ gb160)); have n3_ := Aside0.mk ((by rw [hg]; exact (below_size (by repeat (first | (with_reducible first | exact HB.out | apply below_alloc | apply pw_below_drewN | apply below_drew1) | exact HB.out))) : w.heap.size ≤ gb160)); clear HB; have HB := n0_; have BK160 := n1_; have GW160 := n2_; have GE160 := n3_; clear n0_ n1_ n2_ n3_; clear hb hbox hg; have hcz22_0 : w21.cell? ⟨gb160, 0, none⟩ = some (.int .i64 0) := (blk_cell BK160.out 0).trans rfl; have hcz22_1 : w21.cell? ⟨gb160, 1, none⟩ = some (.int .i64 0) := (blk_cell BK160.out 1).trans rfl; have hcz22_2 : w21.cell? ⟨gb160, 2, none⟩ = some (.int .i64 0) := (blk_cell BK160.out 2).trans rfl; have hfz22_0 := blk_frozen BK160.out 0; have hfz22_1 := blk_frozen BK160.out 1; have hfz22_2 := blk_frozen BK160.out 2) | (go_at_call 51; (with_reducible refine (impl_within.calls ((rd_T55 l0 x15_2).f0) 1 1000000 true _ A8.out).mono ?_); rintro e w' ⟨rfl, ⟨nd, rfl⟩⟩; (try first | exact ⟨rfl, _, World.drewN_drewN _ _ _⟩ | exact ⟨rfl, _, Eq.trans (World.drewN_drewN _ _ _) (congrArg (World.drewN _) (Nat.add_assoc _ _ _))⟩)) | (go_at_call 52; (with_reducible refine (impl_areWinds.calls ((rd_T55 l0 x15_2).f1) ((rd_T55 l0 x15_2).f2) true _ A10.out).mono ?_); rintro e w' ⟨rfl, ⟨nd, rfl⟩⟩; (try first | exact ⟨rfl, _, World.drewN_drewN _ _ _⟩ | exact ⟨rfl, _, Eq.trans (World.drewN_drewN _ _ _) (congrArg (World.drewN _) (Nat.add_assoc _ _ _))⟩))); try go_wp2_with (first | ((with_reducible refine gate_dst (N := 4) rfl ?_); (try (refine gate_guard (by rfl) ?_; dsimp only)); refine box_event ?hg (N := 4) ?hd (cs := #[.int .i64 0, .int .i64 0, .int .i64 0]) (t := 55) ?hr ?_; (case hd => rfl); (case hg => rfl); (case hr => first | (go_simp; done) | (go_simp; rfl)); intro gb160 hg w21 hbox hb; have n0_ := Aside0.mk (below_step (by repeat (first | (with_reducible first | exact HB.out | apply below_alloc | apply pw_below_drewN | apply below_drew1) | exact HB.out)) hb); have n1_ := Aside0.mk (hbox); have n2_ := Aside0.mk ((by rw [hg]; exact (below_size (by repeat (first | (with_reducible first | exact HB.out | apply below_alloc | apply pw_below_drewN | apply below_drew1) | exact HB.out))) : w.heap.size ≤ gb160)); have n3_ := Aside0.mk ((by rw [hg]; exact (below_size (by repeat (first | (with_reducible first | exact HB.out | apply below_alloc | apply pw_below_drewN | apply below_drew1) | exact HB.out))) : w.heap.size ≤ gb160)); clear HB; have HB := n0_; have BK160 := n1_; have GW160 := n2_; have GE160 := n3_; clear n0_ n1_ n2_ n3_; clear hb hbox hg; have hcz22_0 : w21.cell? ⟨gb160, 0, none⟩ = some (.int .i64 0) := (blk_cell BK160.out 0).trans rfl; have hcz22_1 : w21.cell? ⟨gb160, 1, none⟩ = some (.int .i64 0) := (blk_cell BK160.out 1).trans rfl; have hcz22_2 : w21.cell? ⟨gb160, 2, none⟩ = some (.int .i64 0) := (blk_cell BK160.out 2).trans rfl; have hfz22_0 := blk_frozen BK160.out 0; have hfz22_1 := blk_frozen BK160.out 1; have hfz22_2 := blk_frozen BK160.out 2) | (go_at_call 51; (with_reducible refine (impl_within.calls ((rd_T55 l0 x15_2).f0) 1 1000000 true _ A8.out).mono ?_); rintro e w' ⟨rfl, ⟨nd, rfl⟩⟩; (try first | exact ⟨rfl, _, World.drewN_drewN _ _ _⟩ | exact ⟨rfl, _, Eq.trans (World.drewN_drewN _ _ _) (congrArg (World.drewN _) (Nat.add_assoc _ _ _))⟩)) | (go_at_call 52; (with_reducible refine (impl_areWinds.calls ((rd_T55 l0 x15_2).f1) ((rd_T55 l0 x15_2).f2) true _ A10.out).mono ?_); rintro e w' ⟨rfl, ⟨nd, rfl⟩⟩; (try first | exact ⟨rfl, _, World.drewN_drewN _ _ _⟩ | exact ⟨rfl, _, Eq.trans (World.drewN_drewN _ _ _) (congrArg (World.drewN _) (Nat.add_assoc _ _ _))⟩))))
                        go_roundg k2
                        case measure => have := HJ1.out; have := HK2.out; omega
                        case rel => exact ⟨(wrap64 (x15_2 + 1)), (by first | rfl | (simp; done) | (simp [*]; done)), H', ⟨by have := HJ1.out; have := HK2.out; omega⟩, ⟨by repeat (first | (with_reducible first | exact HB.out | apply below_alloc | apply pw_below_drewN | apply below_drew1 | refine below_set ?_ GE160.out) | exact HB.out)⟩⟩
                    · replace c11 := Bool.eq_false_iff.mpr c11
                      subst c11
                      have H1 : (some false) = some r := by rw [if_neg (show ¬ (false = true) by decide)] at H; exact H
                      clear H
                      have H := H1
                      clear H1
                      obtain rfl := Option.some.inj H
                      simp only [Option.some.injEq, Prod.mk.injEq] at H
                      obtain ⟨rfl⟩ := H
                      have p159 : 0 ≤ (x15_2 : Int) := of_decide_eq_true (by first | (with_reducible assumption) | assumption)
                      have q159 : x15_2 < (l0.length : Int) := of_decide_eq_true (by first | (with_reducible assumption) | assumption)
                      obtain ⟨ad159, e159, hx159_0, hx159_1, hx159_2⟩ := at_T55 HR0.out x15_2 p159 q159
                      cases e159
                      replace hx159_0 := (HB.out.cell (World.block_lt_of_cell? _ _ hx159_0)).trans hx159_0
                      replace hx159_1 := (HB.out.cell (World.block_lt_of_cell? _ _ hx159_1)).trans hx159_1
                      replace hx159_2 := (HB.out.cell (World.block_lt_of_cell? _ _ hx159_2)).trans hx159_2
                      replace p159 := eq_true p159
                      replace q159 := eq_true q159
                      go_wp2_with (first | ((with_reducible refine gate_dst (N := 4) rfl ?_); (try (refine gate_guard (by rfl) ?_; dsimp only)); refine box_event ?hg (N := 4) ?hd (cs := #[.int .i64 0, .int .i64 0, .int .i64 0]) (t := 55) ?hr ?_; (case hd => rfl); (case hg => rfl); (case hr => first | (go_simp; done) | (go_simp; rfl)); intro gb160 hg w23 hbox hb; have n0_ := Aside0.mk (below_step (by repeat (first | (with_reducible first | exact HB.out | apply below_alloc | apply pw_below_drewN | apply below_drew1) | exact HB.out)) hb); have n1_ := Aside0.mk (hbox); have n2_ := Aside0.mk ((by rw [hg]; exact (below_size (by repeat (first | (with_reducible first | exact HB.out | apply below_alloc | apply pw_below_drewN | apply below_drew1) | exact HB.out))) : w.heap.size ≤ gb160)); have n3_ := Aside0.mk ((by rw [hg]; exact (below_size (by repeat (first | (with_reducible first | exact HB.out | apply below_alloc | apply pw_below_drewN | apply below_drew1) | exact HB.out))) : w.heap.size ≤ gb160)); clear HB; have HB := n0_; have BK160 := n1_; have GW160 := n2_; have GE160 := n3_; clear n0_ n1_ n2_ n3_; clear hb hbox hg; have hcz24_0 : w23.cell? ⟨gb160, 0, none⟩ = some (.int .i64 0) := (blk_cell BK160.out 0).trans rfl; have hcz24_1 : w23.cell? ⟨gb160, 1, none⟩ = some (.int .i64 0) := (blk_cell BK160.out 1).trans rfl; have hcz24_2 : w23.cell? ⟨gb160, 2, none⟩ = some (.int .i64 0) := (blk_cell BK160.out 2).trans rfl; have hfz24_0 := blk_frozen BK160.out 0; have hfz24_1 := blk_frozen BK160.out 1; have hfz24_2 := blk_frozen BK160.out 2) | (go_at_call 51; (with_reducible refine (impl_within.calls ((rd_T55 l0 x15_2).f0) 1 1000000 true _ A8.out).mono ?_); rintro e w' ⟨rfl, ⟨nd, rfl⟩⟩; (try first | exact ⟨rfl, _, World.drewN_drewN _ _ _⟩ | exact ⟨rfl, _, Eq.trans (World.drewN_drewN _ _ _) (congrArg (World.drewN _) (Nat.add_assoc _ _ _))⟩)) | (go_at_call 52; (with_reducible refine (impl_areWinds.calls ((rd_T55 l0 x15_2).f1) ((rd_T55 l0 x15_2).f2) false _ A10.out).mono ?_); rintro e w' ⟨rfl, ⟨nd, rfl⟩⟩; (try first | exact ⟨rfl, _, World.drewN_drewN _ _ _⟩ | exact ⟨rfl, _, Eq.trans (World.drewN_drewN _ _ _) (congrArg (World.drewN _) (Nat.add_assoc _ _ _))⟩)))
                      repeat (go_quiet (first | ((with_reducible refine gate_dst (N := 4) rfl ?_); (try (refine gate_guard (by rfl) ?_; dsimp only)); refine box_event ?hg (N := 4) ?hd (cs := #[.int .i64 0, .int .i64 0, .int .i64 0]) (t := 55) ?hr ?_; (case hd => rfl); (case hg => rfl); (case hr => first | (go_simp; done) | (go_simp; rfl)); intro gb160 hg w23 hbox hb; have n0_ := Aside0.mk (below_step (by repeat (first | (with_reducible first | exact HB.out | apply below_alloc | apply pw_below_drewN | apply below_drew1) | exact HB.out)) hb); have n1_ := Aside0.mk (hbox); have n2_ := Aside0.mk ((by rw [hg]; exact (below_size (by repeat (first | (with_reducible first | exact HB.out | apply below_alloc | apply pw_below_drewN | apply below_drew1) | exact HB.out))) : w.heap.size ≤ gb160)); have n3_ := Aside0.mk ((by rw [hg]; exact (below_size (by repeat (first | (with_reducible first | exact HB.out | apply below_alloc | apply pw_below_drewN | apply below_drew1) | exact HB.out))) : w.heap.size ≤ gb160)); clear HB; have HB := n0_; have BK160 := n1_; have GW160 := n2_; have GE160 := n3_; clear n0_ n1_ n2_ n3_; clear hb hbox hg; have hcz24_0 : w23.cell? ⟨gb160, 0, none⟩ = some (.int .i64 0) := (blk_cell BK160.out 0).trans rfl; have hcz24_1 : w23.cell? ⟨gb160, 1, none⟩ = some (.int .i64 0) := (blk_cell BK160.out 1).trans rfl; have hcz24_2 : w23.cell? ⟨gb160, 2, none⟩ = some (.int .i64 0) := (blk_cell BK160.out 2).trans rfl; have hfz24_0 := blk_frozen BK160.out 0; have hfz24_1 := blk_frozen BK160.out 1; have hfz24_2 := blk_frozen BK160.out 2) | (go_at_call 51; (with_reducible refine (impl_within.calls ((rd_T55 l0 x15_2).f0) 1 1000000 true _ A8.out).mono ?_); rintro e w' ⟨rfl, ⟨nd, rfl⟩⟩; (try first | exact ⟨rfl, _, World.drewN_drewN _ _ _⟩ | exact ⟨rfl, _, Eq.trans (World.drewN_drewN _ _ _) (congrArg (World.drewN _) (Nat.add_assoc _ _ _))⟩)) | (go_at_call 52; (with_reducible refine (impl_areWinds.calls ((rd_T55 l0 x15_2).f1) ((rd_T55 l0 x15_2).f2) false _ A10.out).mono ?_); rintro e w' ⟨rfl, ⟨nd, rfl⟩⟩; (try first | exact ⟨rfl, _, World.drewN_drewN _ _ _⟩ | exact ⟨rfl, _, Eq.trans (World.drewN_drewN _ _ _) (congrArg (World.drewN _) (Nat.add_assoc _ _ _))⟩))); try go_wp2_with (first | ((with_reducible refine gate_dst (N := 4) rfl ?_); (try (refine gate_guard (by rfl) ?_; dsimp only)); refine box_event ?hg (N := 4) ?hd (cs := #[.int .i64 0, .int .i64 0, .int .i64 0]) (t := 55) ?hr ?_; (case hd => rfl); (case hg => rfl); (case hr => first | (go_simp; done) | (go_simp; rfl)); intro gb160 hg w23 hbox hb; have n0_ := Aside0.mk (below_step (by repeat (first | (with_reducible first | exact HB.out | apply below_alloc | apply pw_below_drewN | apply below_drew1) | exact HB.out)) hb); have n1_ := Aside0.mk (hbox); have n2_ := Aside0.mk ((by rw [hg]; exact (below_size (by repeat (first | (with_reducible first | exact HB.out | apply below_alloc | apply pw_below_drewN | apply below_drew1) | exact HB.out))) : w.heap.size ≤ gb160)); have n3_ := Aside0.mk ((by rw [hg]; exact (below_size (by repeat (first | (with_reducible first | exact HB.out | apply below_alloc | apply pw_below_drewN | apply below_drew1) | exact HB.out))) : w.heap.size ≤ gb160)); clear HB; have HB := n0_; have BK160 := n1_; have GW160 := n2_; have GE160 := n3_; clear n0_ n1_ n2_ n3_; clear hb hbox hg; have hcz24_0 : w23.cell? ⟨gb160, 0, none⟩ = some (.int .i64 0) := (blk_cell BK160.out 0).trans rfl; have hcz24_1 : w23.cell? ⟨gb160, 1, none⟩ = some (.int .i64 0) := (blk_cell BK160.out 1).trans rfl; have hcz24_2 : w23.cell? ⟨gb160, 2, none⟩ = some (.int .i64 0) := (blk_cell BK160.out 2).trans rfl; have hfz24_0 := blk_frozen BK160.out 0; have hfz24_1 := blk_frozen BK160.out 1; have hfz24_2 := blk_frozen BK160.out 2) | (go_at_call 51; (with_reducible refine (impl_within.calls ((rd_T55 l0 x15_2).f0) 1 1000000 true _ A8.out).mono ?_); rintro e w' ⟨rfl, ⟨nd, rfl⟩⟩; (try first | exact ⟨rfl, _, World.drewN_drewN _ _ _⟩ | exact ⟨rfl, _, Eq.trans (World.drewN_drewN _ _ _) (congrArg (World.drewN _) (Nat.add_assoc _ _ _))⟩)) | (go_at_call 52; (with_reducible refine (impl_areWinds.calls ((rd_T55 l0 x15_2).f1) ((rd_T55 l0 x15_2).f2) false _ A10.out).mono ?_); rintro e w' ⟨rfl, ⟨nd, rfl⟩⟩; (try first | exact ⟨rfl, _, World.drewN_drewN _ _ _⟩ | exact ⟨rfl, _, Eq.trans (World.drewN_drewN _ _ _) (congrArg (World.drewN _) (Nat.add_assoc _ _ _))⟩))))
                      go_ret
                      exact ⟨by first | rfl | (simp [errW_none, errW_some] <;> rfl) | (simp [*, errW_none, errW_some] <;> rfl), by repeat (first | (with_reducible first | exact HB.out | apply below_alloc | apply pw_below_drewN | apply below_drew1 | refine below_set ?_ GE160.out) | exact HB.out)⟩
                  · replace c9 := Bool.eq_false_iff.mpr c9
                    subst c9
                    have H1 : (some false) = some r := by rw [if_neg (show ¬ (false = true) by decide)] at H; exact H
                    clear H
                    have H := H1
                    clear H1
                    obtain rfl := Option.some.inj H
                    simp only [Option.some.injEq, Prod.mk.injEq] at H
                    obtain ⟨rfl⟩ := H
                    have p159 : 0 ≤ (x15_2 : Int) := of_decide_eq_true (by first | (with_reducible assumption) | assumption)
                    have q159 : x15_2 < (l0.length : Int) := of_decide_eq_true (by first | (with_reducible assumption) | assumption)
                    obtain ⟨ad159, e159, hx159_0, hx159_1, hx159_2⟩ := at_T55 HR0.out x15_2 p159 q159
                    cases e159
                    replace hx159_0 := (HB.out.cell (World.block_lt_of_cell? _ _ hx159_0)).trans hx159_0
                    replace hx159_1 := (HB.out.cell (World.block_lt_of_cell? _ _ hx159_1)).trans hx159_1
                    replace hx159_2 := (HB.out.cell (World.block_lt_of_cell? _ _ hx159_2)).trans hx159_2
                    replace p159 := eq_true p159
                    replace q159 := eq_true q159
                    go_wp2_with (first | ((with_reducible refine gate_dst (N := 4) rfl ?_); (try (refine gate_guard (by rfl) ?_; dsimp only)); refine box_event ?hg (N := 4) ?hd (cs := #[.int .i64 0, .int .i64 0, .int .i64 0]) (t := 55) ?hr ?_; (case hd => rfl); (case hg => rfl); (case hr => first | (go_simp; done) | (go_simp; rfl)); intro gb160 hg w25 hbox hb; have n0_ := Aside0.mk (below_step (by repeat (first | (with_reducible first | exact HB.out | apply below_alloc | apply pw_below_drewN | apply below_drew1) | exact HB.out)) hb); have n1_ := Aside0.mk (hbox); have n2_ := Aside0.mk ((by rw [hg]; exact (below_size (by repeat (first | (with_reducible first | exact HB.out | apply below_alloc | apply pw_below_drewN | apply below_drew1) | exact HB.out))) : w.heap.size ≤ gb160)); have n3_ := Aside0.mk ((by rw [hg]; exact (below_size (by repeat (first | (with_reducible first | exact HB.out | apply below_alloc | apply pw_below_drewN | apply below_drew1) | exact HB.out))) : w.heap.size ≤ gb160)); clear HB; have HB := n0_; have BK160 := n1_; have GW160 := n2_; have GE160 := n3_; clear n0_ n1_ n2_ n3_; clear hb hbox hg; have hcz26_0 : w25.cell? ⟨gb160, 0, none⟩ = some (.int .i64 0) := (blk_cell BK160.out 0).trans rfl; have hcz26_1 : w25.cell? ⟨gb160, 1, none⟩ = some (.int .i64 0) := (blk_cell BK160.out 1).trans rfl; have hcz26_2 : w25.cell? ⟨gb160, 2, none⟩ = some (.int .i64 0) := (blk_cell BK160.out 2).trans rfl; have hfz26_0 := blk_frozen BK160.out 0; have hfz26_1 := blk_frozen BK160.out 1; have hfz26_2 := blk_frozen BK160.out 2) | (go_at_call 51; (with_reducible refine (impl_within.calls ((rd_T55 l0 x15_2).f0) 1 1000000 false _ A8.out).mono ?_); rintro e w' ⟨rfl, ⟨nd, rfl⟩⟩; (try first | exact ⟨rfl, _, World.drewN_drewN _ _ _⟩ | exact ⟨rfl, _, Eq.trans (World.drewN_drewN _ _ _) (congrArg (World.drewN _) (Nat.add_assoc _ _ _))⟩)))
                    repeat (go_quiet (first | ((with_reducible refine gate_dst (N := 4) rfl ?_); (try (refine gate_guard (by rfl) ?_; dsimp only)); refine box_event ?hg (N := 4) ?hd (cs := #[.int .i64 0, .int .i64 0, .int .i64 0]) (t := 55) ?hr ?_; (case hd => rfl); (case hg => rfl); (case hr => first | (go_simp; done) | (go_simp; rfl)); intro gb160 hg w25 hbox hb; have n0_ := Aside0.mk (below_step (by repeat (first | (with_reducible first | exact HB.out | apply below_alloc | apply pw_below_drewN | apply below_drew1) | exact HB.out)) hb); have n1_ := Aside0.mk (hbox); have n2_ := Aside0.mk ((by rw [hg]; exact (below_size (by repeat (first | (with_reducible first | exact HB.out | apply below_alloc | apply pw_below_drewN | apply below_drew1) | exact HB.out))) : w.heap.size ≤ gb160)); have n3_ := Aside0.mk ((by rw [hg]; exact (below_size (by repeat (first | (with_reducible first | exact HB.out | apply below_alloc | apply pw_below_drewN | apply below_drew1) | exact HB.out))) : w.heap.size ≤ gb160)); clear HB; have HB := n0_; have BK160 := n1_; have GW160 := n2_; have GE160 := n3_; clear n0_ n1_ n2_ n3_; clear hb hbox hg; have hcz26_0 : w25.cell? ⟨gb160, 0, none⟩ = some (.int .i64 0) := (blk_cell BK160.out 0).trans rfl; have hcz26_1 : w25.cell? ⟨gb160, 1, none⟩ = some (.int .i64 0) := (blk_cell BK160.out 1).trans rfl; have hcz26_2 : w25.cell? ⟨gb160, 2, none⟩ = some (.int .i64 0) := (blk_cell BK160.out 2).trans rfl; have hfz26_0 := blk_frozen BK160.out 0; have hfz26_1 := blk_frozen BK160.out 1; have hfz26_2 := blk_frozen BK160.out 2) | (go_at_call 51; (with_reducible refine (impl_within.calls ((rd_T55 l0 x15_2).f0) 1 1000000 false _ A8.out).mono ?_); rintro e w' ⟨rfl, ⟨nd, rfl⟩⟩; (try first | exact ⟨rfl, _, World.drewN_drewN _ _ _⟩ | exact ⟨rfl, _, Eq.trans (World.drewN_drewN _ _ _) (congrArg (World.drewN _) (Nat.add_assoc _ _ _))⟩))); try go_wp2_with (first | ((with_reducible refine gate_dst (N := 4) rfl ?_); (try (refine gate_guard (by rfl) ?_; dsimp only)); refine box_event ?hg (N := 4) ?hd (cs := #[.int .i64 0, .int .i64 0, .int .i64 0]) (t := 55) ?hr ?_; (case hd => rfl); (case hg => rfl); (case hr => first | (go_simp; done) | (go_simp; rfl)); intro gb160 hg w25 hbox hb; have n0_ := Aside0.mk (below_step (by repeat (first | (with_reducible first | exact HB.out | apply below_alloc | apply pw_below_drewN | apply below_drew1) | exact HB.out)) hb); have n1_ := Aside0.mk (hbox); have n2_ := Aside0.mk ((by rw [hg]; exact (below_size (by repeat (first | (with_reducible first | exact HB.out | apply below_alloc | apply pw_below_drewN | apply below_drew1) | exact HB.out))) : w.heap.size ≤ gb160)); have n3_ := Aside0.mk ((by rw [hg]; exact (below_size (by repeat (first | (with_reducible first | exact HB.out | apply below_alloc | apply pw_below_drewN | apply below_drew1) | exact HB.out))) : w.heap.size ≤ gb160)); clear HB; have HB := n0_; have BK160 := n1_; have GW160 := n2_; have GE160 := n3_; clear n0_ n1_ n2_ n3_; clear hb hbox hg; have hcz26_0 : w25.cell? ⟨gb160, 0, none⟩ = some (.int .i64 0) := (blk_cell BK160.out 0).trans rfl; have hcz26_1 : w25.cell? ⟨gb160, 1, none⟩ = some (.int .i64 0) := (blk_cell BK160.out 1).trans rfl; have hcz26_2 : w25.cell? ⟨gb160, 2, none⟩ = some (.int .i64 0) := (blk_cell BK160.out 2).trans rfl; have hfz26_0 := blk_frozen BK160.out 0; have hfz26_1 := blk_frozen BK160.out 1; have hfz26_2 := blk_frozen BK160.out 2) | (go_at_call 51; (with_reducible refine (impl_within.calls ((rd_T55 l0 x15_2).f0) 1 1000000 false _ A8.out).mono ?_); rintro e w' ⟨rfl, ⟨nd, rfl⟩⟩; (try first | exact ⟨rfl, _, World.drewN_drewN _ _ _⟩ | exact ⟨rfl, _, Eq.trans (World.drewN_drewN _ _ _) (congrArg (World.drewN _) (Nat.add_assoc _ _ _))⟩))))
                    go_ret
                    exact ⟨by first | rfl | (simp [errW_none, errW_some] <;> rfl) | (simp [*, errW_none, errW_some] <;> rfl), by repeat (first | (with_reducible first | exact HB.out | apply below_alloc | apply pw_below_drewN | apply below_drew1 | refine below_set ?_ GE160.out) | exact HB.out)⟩
                · rw [if_neg c7] at H
                  exact absurd H (by simp)
              · rw [if_neg c6] at H
                exact absurd H (by simp)
            · rw [if_neg c5] at H
              have c5b0 : decide (x15_2 < (l0.length : Int)) = false := decide_eq_false c5
              clear c5
              obtain rfl := Option.some.inj H
              simp only [Option.some.injEq, Prod.mk.injEq] at H
              obtain ⟨rfl⟩ := H
              go_wp2
              repeat (go_quiet (fail); try go_wp2)
              go_ret
              exact ⟨by first | rfl | (simp [errW_none, errW_some] <;> rfl) | (simp [*, errW_none, errW_some] <;> rfl), by repeat (first | (with_reducible first | exact HB.out | apply below_alloc | apply pw_below_drewN | apply below_drew1) | exact HB.out)⟩

/-! ### impl_layerOf: function 60 -/
def impl_layerOf.l0 : Nat → Int → List (S55) → Int → Int → Option (Int)
  | 0, _, _, _, _ => none
  | k + 1, x1, x7, x8, x9 => if x9 < x8 then (if 0 ≤ x9 then (if x9 < (x7.length : Int) then (if x1 ≤ ((rd_T55 x7 x9).f0) then (some x9) else (impl_layerOf.l0 k x1 x7 x8 (wrap64 (x9 + 1)))) else (none)) else (none)) else (some (-1))
def impl_layerOf.f (k : Nat) (l0 : List (S55)) (a1 : Int) : Option (Int) := impl_layerOf.l0 k a1 l0 (l0.length : Int) 0
theorem impl_layerOf.mono_l : ∀ k, (∀ y0 y1 y2 y3, LeO (impl_layerOf.l0 k y0 y1 y2 y3) (impl_layerOf.l0 (k + 1) y0 y1 y2 y3))
  | 0 => fun _ _ _ _ r h => by simp [impl_layerOf.l0] at h
  | k + 1 => by
    have ih0 := impl_layerOf.mono_l k
    · intro y0 y1 y2 y3
      unfold impl_layerOf.l0
      repeat' first
      | (with_reducible exact ih0 _ _ _ _)
      | (with_reducible exact LeO.refl _)
      | (with_reducible exact LeO.none _)
      | (with_reducible refine LeO.ite ?_ ?_)
      | (with_reducible refine LeO.bind ?_ (fun _ => ?_))
      | exact ih0 _ _ _ _
      | exact LeO.none _
      | refine LeO.ite ?_ ?_
      | refine LeO.bind ?_ (fun _ => ?_)
theorem impl_layerOf.mono : ∀ a0 a1 k, LeO (impl_layerOf.f k a0 a1) (impl_layerOf.f (k + 1) a0 a1) := by
  intro a0 a1 k
  have ih0 := impl_layerOf.mono_l k
  unfold impl_layerOf.f
  repeat' first
      | (with_reducible exact ih0 _ _ _ _)
      | (with_reducible exact LeO.refl _)
      | (with_reducible exact LeO.none _)
      | (with_reducible refine LeO.ite ?_ ?_)
      | (with_reducible refine LeO.bind ?_ (fun _ => ?_))
      | exact ih0 _ _ _ _
      | exact LeO.none _
      | refine LeO.ite ?_ ?_
      | refine LeO.bind ?_ (fun _ => ?_)
set_option maxHeartbeats 8000000 in
set_option maxRecDepth 100000 in
theorem impl_layerOf.calls (k : Nat) (A0 : Option Addr) (c0 : Nat) (l0 : List (S55)) (a1 : Int) (r : Int) (w : World) (hr0 : Kd.C k55 w A0 l0.length l0) (hc0 : l0.length ≤ c0) (h : impl_layerOf.f k l0 a1 = some r) :
    Calls Try.prog 60 #[.slice A0 l0.length c0, .int .i64 a1] w fun e w' => e = .returned (.int .i64 r) ∧ Below w.heap.size w w' := by
  have hu55 := Try.underlying55
  have HR0 := Aside0.mk hr0
  have HC0 := Aside0.mk hc0
  clear hr0 hc0
  have HB := Aside0.mk (Below.refl w.heap.size w)
  have H : (impl_layerOf.l0 k a1 l0 (l0.length : Int) 0) = some r := h
  clear h
  have H' := Aside0.mk H
  clear H
  go_enter Try.func60, Try.ntmps60
  go_wp2
  go_loopg [9] k (fun kq v9 w' => ∃ (x9_1 : Int), v9 = .int .i64 x9_1 ∧ Aside0 (impl_layerOf.l0 kq a1 l0 (l0.length : Int) x9_1 = some r) ∧ Aside0 (kq ≤ k) ∧ Aside0 (Below w.heap.size w w'))
  case atStart => exact ⟨(0), (by first | rfl | (simp; done) | (simp [*]; done)), H', ⟨Nat.le_refl _⟩, ⟨by repeat (first | (with_reducible first | exact HB.out | apply below_alloc | apply pw_below_drewN | apply below_drew1) | exact HB.out)⟩⟩
  case round =>
    clear H'
    try clear p2
    obtain ⟨x9_1, rfl, HA, HK1, HB⟩ := hrel
    cases gk with
    | zero => exact absurd HA.out (by simp [impl_layerOf.l0])
    | succ k1 =>
      have H := HA.out
      clear HA
      simp only [impl_layerOf.l0] at H
      by_cases c3 : x9_1 < (l0.length : Int)
      · rw [if_pos c3] at H
        have c3b0 : decide (x9_1 < (l0.length : Int)) = true := decide_eq_true c3
        clear c3
        by_cases c4 : 0 ≤ x9_1
        · rw [if_pos c4] at H
          have c4b0 : decide (0 ≤ x9_1) = true := decide_eq_true c4
          clear c4
          by_cases c5 : x9_1 < (l0.length : Int)
          · rw [if_pos c5] at H
            have c5b0 : decide (x9_1 < (l0.length : Int)) = true := decide_eq_true c5
            clear c5
            by_cases c6 : a1 ≤ ((rd_T55 l0 x9_1).f0)
            · rw [if_pos c6] at H
              have c6b0 : decide (a1 ≤ ((rd_T55 l0 x9_1).f0)) = true := decide_eq_true c6
              clear c6
              obtain rfl := Option.some.inj H
              simp only [Option.some.injEq, Prod.mk.injEq] at H
              obtain ⟨rfl⟩ := H
              have p164 : 0 ≤ (x9_1 : Int) := of_decide_eq_true (by first | (with_reducible assumption) | assumption)
              have q164 : x9_1 < (l0.length : Int) := of_decide_eq_true (by first | (with_reducible assumption) | assumption)
              obtain ⟨ad164, e164, hx164_0, hx164_1, hx164_2⟩ := at_T55 HR0.out x9_1 p164 q164
              cases e164
              replace hx164_0 := (HB.out.cell (World.block_lt_of_cell? _ _ hx164_0)).trans hx164_0
              replace hx164_1 := (HB.out.cell (World.block_lt_of_cell? _ _ hx164_1)).trans hx164_1
              replace hx164_2 := (HB.out.cell (World.block_lt_of_cell? _ _ hx164_2)).trans hx164_2
              replace p164 := eq_true p164
              replace q164 := eq_true q164
              go_wp2_with (first | ((with_reducible refine gate_dst (N := 6) rfl ?_); refine box_event ?hg (N := 6) ?hd (cs := #[.int .i64 0, .int .i64 0, .int .i64 0]) (t := 55) ?hr ?_; (case hd => rfl); (case hg => rfl); (case hr => first | (go_simp; done) | (go_simp; rfl)); intro gb165 hg w7 hbox hb; have n0_ := Aside0.mk (below_step (by repeat (first | (with_reducible first | exact HB.out | apply below_alloc | apply pw_below_drewN | apply below_drew1) | exact HB.out)) hb); have n1_ := Aside0.mk (hbox); have n2_ := Aside0.mk ((by rw [hg]; exact (below_size (by repeat (first | (with_reducible first | exact HB.out | apply below_alloc | apply pw_below_drewN | apply below_drew1) | exact HB.out))) : w.heap.size ≤ gb165)); have n3_ := Aside0.mk ((by rw [hg]; exact (below_size (by repeat (first | (with_reducible first | exact HB.out | apply below_alloc | apply pw_below_drewN | apply below_drew1) | exact HB.out))) : w.heap.size ≤ gb165)); clear HB; have HB := n0_; have BK165 := n1_; have GW165 := n2_; have GE165 := n3_; clear n0_ n1_ n2_ n3_; clear hb hbox hg; have hcz8_0 : w7.cell? ⟨gb165, 0, none⟩ = some (.int .i64 0) := (blk_cell BK165.out 0).trans rfl; have hcz8_1 : w7.cell? ⟨gb165, 1, none⟩ = some (.int .i64 0) := (blk_cell BK165.out 1).trans rfl; have hcz8_2 : w7.cell? ⟨gb165, 2, none⟩ = some (.int .i64 0) := (blk_cell BK165.out 2).trans rfl; have hfz8_0 := blk_frozen BK165.out 0; have hfz8_1 := blk_frozen BK165.out 1; have hfz8_2 := blk_frozen BK165.out 2))
              go_ret
              exact ⟨by first | rfl | (simp [errW_none, errW_some] <;> rfl) | (simp [*, errW_none, errW_some] <;> rfl), by repeat (first | (with_reducible first | exact HB.out | apply below_alloc | apply pw_below_drewN | apply below_drew1 | refine below_set ?_ GE165.out) | exact HB.out)⟩
            · rw [if_neg c6] at H
              have c6b0 : decide (a1 ≤ ((rd_T55 l0 x9_1).f0)) = false := decide_eq_false c6
              clear c6
              have H' := Aside0.mk H
              clear H
              have p164 : 0 ≤ (x9_1 : Int) := of_decide_eq_true (by first | (with_reducible assumption) | assumption)
              have q164 : x9_1 < (l0.length : Int) := of_decide_eq_true (by first | (with_reducible assumption) | assumption)
              obtain ⟨ad164, e164, hx164_0, hx164_1, hx164_2⟩ := at_T55 HR0.out x9_1 p164 q164
              cases e164
              replace hx164_0 := (HB.out.cell (World.block_lt_of_cell? _ _ hx164_0)).trans hx164_0
              replace hx164_1 := (HB.out.cell (World.block_lt_of_cell? _ _ hx164_1)).trans hx164_1
              replace hx164_2 := (HB.out.cell (World.block_lt_of_cell? _ _ hx164_2)).trans hx164_2
              replace p164 := eq_true p164
              replace q164 := eq_true q164
              go_wp2_with (first | ((with_reducible refine gate_dst (N := 6) rfl ?_); refine box_event ?hg (N := 6) ?hd (cs := #[.int .i64 0, .int .i64 0, .int .i64 0]) (t := 55) ?hr ?_; (case hd => rfl); (case hg => rfl); (case hr => first | (go_simp; done) | (go_simp; rfl)); intro gb165 hg w9 hbox hb; have n0_ := Aside0.mk (below_step (by repeat (first | (with_reducible first | exact HB.out | apply below_alloc | apply pw_below_drewN | apply below_drew1) | exact HB.out)) hb); have n1_ := Aside0.mk (hbox); have n2_ := Aside0.mk ((by rw [hg]; exact (below_size (by repeat (first | (with_reducible first | exact HB.out | apply below_alloc | apply pw_below_drewN | apply below_drew1) | exact HB.out))) : w.heap.size ≤ gb165)); have n3_ := Aside0.mk ((by rw [hg]; exact (below_size (by repeat (first | (with_reducible first | exact HB.out | apply below_alloc | apply pw_below_drewN | apply below_drew1) | exact HB.out))) : w.heap.size ≤ gb165)); clear HB; have HB := n0_; have BK165 := n1_; have GW165 := n2_; have GE165 := n3_; clear n0_ n1_ n2_ n3_; clear hb hbox hg; have hcz10_0 : w9.cell? ⟨gb165, 0, none⟩ = some (.int .i64 0) := (blk_cell BK165.out 0).trans rfl; have hcz10_1 : w9.cell? ⟨gb165, 1, none⟩ = some (.int .i64 0) := (blk_cell BK165.out 1).trans rfl; have hcz10_2 : w9.cell? ⟨gb165, 2, none⟩ = some (.int .i64 0) := (blk_cell BK165.out 2).trans rfl; have hfz10_0 := blk_frozen BK165.out 0; have hfz10_1 := blk_frozen BK165.out 1; have hfz10_2 := blk_frozen BK165.out 2))
              go_roundg k1
              case measure => have := HK1.out; omega
              case rel => exact ⟨(wrap64 (x9_1 + 1)), (by first | rfl | (simp; done) | (simp [*]; done)), H', ⟨by have := HK1.out; omega⟩, ⟨by repeat (first | (with_reducible first | exact HB.out | apply below_alloc | apply pw_below_drewN | apply below_drew1 | refine below_set ?_ GE165.out) | exact HB.out)⟩⟩
          · rw [if_neg c5] at H
            exact absurd H (by simp)
        · rw [if_neg c4] at H
          exact absurd H (by simp)
      · rw [if_neg c3] at H
        have c3b0 : decide (x9_1 < (l0.length : Int)) = false := decide_eq_false c3
        clear c3
        obtain rfl := Option.some.inj H
        simp only [Option.some.injEq, Prod.mk.injEq] at H
        obtain ⟨rfl⟩ := H
        go_wp2
        go_ret
        exact ⟨by first | rfl | (simp [errW_none, errW_some] <;> rfl) | (simp [*, errW_none, errW_some] <;> rfl), by repeat (first | (with_reducible first | exact HB.out | apply below_alloc | apply pw_below_drewN | apply below_drew1) | exact HB.out)⟩

/-! ### impl_layersTo: function 55 -/
def impl_layersTo.j0 : Nat → List (S55) → Int → Bool → Option ((List (S55)) × Int)
  | 0, _, _, _ => none
  | k + 1, x0, x1, x18 => if x18 = true then (some (([] : List (S55)), 2)) else ((impl_layerOf.f k x0 x1).bind fun t168 => (if t168 < 0 then (some (([] : List (S55)), 4)) else (if 0 ≤ (wrap64 (t168 + 1)) then (if (wrap64 (t168 + 1)) ≤ (x0.length : Int) then (some ((x0.take ((wrap64 (t168 + 1)) : Int).toNat), 0)) else (none)) else (none))))
def impl_layersTo.f (k : Nat) (l0 : List (S55)) (a1 : Int) (a2 : Bool) : Option ((List (S55)) × Int) := (impl_IsProfile.f k l0).bind fun t166 => (if t166 = true then ((impl_within.f a1 0 1000000).bind fun t167 => (if t167 = true then (impl_layersTo.j0 k l0 a1 (!a2)) else (impl_layersTo.j0 k l0 a1 true))) else (some (([] : List (S55)), 1)))
theorem impl_layersTo.mono_l : ∀ k, (∀ y0 y1 y2, LeO (impl_layersTo.j0 k y0 y1 y2) (impl_layersTo.j0 (k + 1) y0 y1 y2))
  | 0 => fun _ _ _ r h => by simp [impl_layersTo.j0] at h
  | k + 1 => by
    have ih0 := impl_layersTo.mono_l k
    · intro y0 y1 y2
      unfold impl_layersTo.j0
      repeat' first
      | (with_reducible exact ih0 _ _ _)
      | (with_reducible exact impl_IsProfile.mono _ _)
      | (with_reducible exact impl_layerOf.mono _ _ _)
      | (with_reducible exact LeO.refl _)
      | (with_reducible exact LeO.none _)
      | (with_reducible refine LeO.ite ?_ ?_)
      | (with_reducible refine LeO.bind ?_ (fun _ => ?_))
      | exact ih0 _ _ _
      | exact impl_IsProfile.mono _ _
      | exact impl_layerOf.mono _ _ _
      | exact LeO.none _
      | refine LeO.ite ?_ ?_
      | refine LeO.bind ?_ (fun _ => ?_)
theorem impl_layersTo.mono : ∀ a0 a1 a2 k, LeO (impl_layersTo.f k a0 a1 a2) (impl_layersTo.f (k + 1) a0 a1 a2) := by
  intro a0 a1 a2 k
  have ih0 := impl_layersTo.mono_l k
  unfold impl_layersTo.f
  repeat' first
      | (with_reducible exact ih0 _ _ _)
      | (with_reducible exact impl_IsProfile.mono _ _)
      | (with_reducible exact impl_layerOf.mono _ _ _)
      | (with_reducible exact LeO.refl _)
      | (with_reducible exact LeO.none _)
      | (with_reducible refine LeO.ite ?_ ?_)
      | (with_reducible refine LeO.bind ?_ (fun _ => ?_))
      | exact ih0 _ _ _
      | exact impl_IsProfile.mono _ _
      | exact impl_layerOf.mono _ _ _
      | exact LeO.none _
      | refine LeO.ite ?_ ?_
      | refine LeO.bind ?_ (fun _ => ?_)
set_option maxHeartbeats 8000000 in
set_option maxRecDepth 100000 in
theorem impl_layersTo.calls (k : Nat) (P0_ : Nat → Prop) (u9000_ : Value) (l0 : List (S55)) (a1 : Int) (a2 : Bool) (r1 : List (S55)) (r2 : Int) (w0 w : World) (hB : Below w0.heap.size w0 w) (ho0 : Kd.R k55 55 w w0.heap.size P0_ u9000_ l0) (h : impl_layersTo.f k l0 a1 a2 = some (r1, r2)) :
    Calls Try.prog 55 #[u9000_, .int .i64 a1, .bool a2] w fun e w' => ∃ v0_ : Value, e = .returned (.tuple #[v0_, .int .i64 r2]) ∧ Kd.R k55 55 w' w0.heap.size (fun k_ => (P0_ k_ ∨ w.heap.size ≤ k_)) v0_ r1 ∧ Below w0.heap.size w0 w' ∧ Kept w w' (fun k_ => P0_ k_) := by
  have HO0 := Aside0.mk (show Kd.R k55 55 w w0.heap.size (fun k_ => (P0_ k_ ∨ w.heap.size ≤ k_)) u9000_ l0 from Kd.R_mono ho0 (fun k_ hk => (.inl hk)))
  have HK := Aside0.mk (Kept.refl w (fun k_ => P0_ k_))
  have HW0 := Aside0.mk hB.size
  have HB := Aside0.mk hB
  clear hB
  have H : ((impl_IsProfile.f k l0).bind fun t166 => (if t166 = true then ((impl_within.f a1 0 1000000).bind fun t167 => (if t167 = true then (impl_layersTo.j0 k l0 a1 (!a2)) else (impl_layersTo.j0 k l0 a1 true))) else (some (([] : List (S55)), 1)))) = some (r1, r2) := h
  clear h
  replace H := Option.bind_eq_some_iff.mp H
  obtain ⟨t166, A40, H⟩ := H
  replace H : (if t166 = true then ((impl_within.f a1 0 1000000).bind fun t167 => (if t167 = true then (impl_layersTo.j0 k l0 a1 (!a2)) else (impl_layersTo.j0 k l0 a1 true))) else (some (([] : List (S55)), 1))) = some (r1, r2) := H
  have A4 := Aside0.mk A40
  clear A40
  by_cases c5 : t166 = true
  · subst c5
    have H1 : ((impl_within.f a1 0 1000000).bind fun t167 => (if t167 = true then (impl_layersTo.j0 k l0 a1 (!a2)) else (impl_layersTo.j0 k l0 a1 true))) = some (r1, r2) := by rw [if_pos rfl] at H; exact H
    clear H
    have H := H1
    clear H1
    have HC6 := Aside0.mk H
    clear H
    obtain ⟨Ao7, co7, eo7⟩ := Kd.R_slice HO0.out
    subst eo7
    go_enter Try.func55, Try.ntmps55
    go_upto_region 3 with (first | ((with_reducible refine gate_callee (f := 17) rfl ?_); refine goesL_ (some 10) rfl rfl Try.func17 (by kernel_rfl) rfl #[.slice Ao7 l0.length co7] rfl (by (try simp only [List.map_toArray, List.map_cons, List.map_nil]); first | done | rfl | (simp only [List.length_drop, List.length_take]; rfl) | (go_simp; done) | (simp; done) | (simp; rfl)) ?_; (with_reducible refine (impl_IsProfile.calls k _ _ l0 true _ ?side1 ?side2 A4.out).mono ?_); (case side1 => repeat (first | exact (Kd.R_reads' HO0.out).2.2 | (with_reducible refine Kd.C_alloc ?_ _) | (with_reducible refine Kd.C_drewN ?_ _) | (with_reducible refine Kd.C_drew ?_))); (case side2 => exact (Kd.R_reads' HO0.out).2.1); rintro e w8 ⟨rfl, hb⟩; refine ⟨_, rfl, ?_⟩; have n0_ := Aside0.mk (Kd.R_below (by (with_reducible repeat (first | apply Kd.R_alloc | apply Kd.R_drewN | apply Kd.R_drew)); exact HO0.out) hb); have n1_ := Aside0.mk (Kept.below (S := (fun k_ => P0_ k_)) (by repeat (first | (with_reducible first | exact HK.out | apply Kept.alloc | apply Kept.drewN | apply Kept.drew) | exact HK.out)) hb); have n2_ := Aside0.mk (below_step (by repeat (first | (with_reducible first | exact HB.out | apply below_alloc | apply pw_below_drewN | apply below_drew1) | exact HB.out)) hb); clear HO0; clear HK; clear HB; have HO0 := n0_; have HK := n1_; have HB := n2_; clear n0_ n1_ n2_; (try clear hb); (try clear hb2); (try clear hk); (try clear hi)))
    (try simp only [Act.put, List.setIfInBounds_toArray, List.set_cons_zero, List.set_cons_succ])
    go_cut [18] (fun v18 wc => ∃ (kq : Nat) (x18_5 : Bool), v18 = .bool x18_5 ∧ Aside0 (impl_layersTo.j0 kq l0 a1 x18_5 = some (r1, r2)) ∧ Aside0 (kq ≤ k) ∧ Aside0 (Kd.R k55 55 wc w0.heap.size (fun k_ => (P0_ k_ ∨ w.heap.size ≤ k_)) (.slice Ao7 l0.length co7) l0) ∧ Aside0 (Kept w wc (fun k_ => P0_ k_)) ∧ Aside0 (Below w0.heap.size w0 wc))
    case first =>
      have H := HC6.out
      clear HC6
      replace H := Option.bind_eq_some_iff.mp H
      obtain ⟨t167, A90, H⟩ := H
      replace H : (if t167 = true then (impl_layersTo.j0 k l0 a1 (!a2)) else (impl_layersTo.j0 k l0 a1 true)) = some (r1, r2) := H
      have A9 := Aside0.mk A90
      clear A90
      by_cases c10 : t167 = true
      · subst c10
        have H1 : (impl_layersTo.j0 k l0 a1 (!a2)) = some (r1, r2) := by rw [if_pos rfl] at H; exact H
        clear H
        have H := H1
        clear H1
        have H' := Aside0.mk H
        clear H
        go_wp2_with (first | ((with_reducible refine gate_callee (f := 51) rfl ?_); refine goesL_ (some 13) rfl rfl Try.func51 (by kernel_rfl) rfl #[.int .i64 a1, .int .i64 0, .int .i64 1000000] rfl (by (try simp only [List.map_toArray, List.map_cons, List.map_nil]); first | done | rfl | (simp only [List.length_drop, List.length_take]; rfl) | (go_simp; done) | (simp; done) | (simp; rfl)) ?_; (with_reducible refine (impl_within.calls a1 0 1000000 true _ A9.out).mono ?_); rintro e w' ⟨rfl, ⟨nd, rfl⟩⟩; refine ⟨_, rfl, ?_⟩))
        go_meet
        case rel => exact ⟨_, (!a2), (by first | rfl | (simp; done) | (simp [*]; done)), H', ⟨by first | omega | exact Nat.le_refl _⟩, ⟨by (with_reducible repeat (first | apply Kd.R_alloc | apply Kd.R_drewN | apply Kd.R_drew)); exact HO0.out⟩, ⟨by repeat (first | (with_reducible first | exact HK.out | apply Kept.alloc | apply Kept.drewN | apply Kept.drew) | exact HK.out)⟩, ⟨by repeat (first | (with_reducible first | exact HB.out | apply below_alloc | apply pw_below_drewN | apply below_drew1) | exact HB.out)⟩⟩
      · replace c10 := Bool.eq_false_iff.mpr c10
        subst c10
        have H1 : (impl_layersTo.j0 k l0 a1 true) = some (r1, r2) := by rw [if_neg (show ¬ (false = true) by decide)] at H; exact H
        clear H
        have H := H1
        clear H1
        have H' := Aside0.mk H
        clear H
        go_wp2_with (first | ((with_reducible refine gate_callee (f := 51) rfl ?_); refine goesL_ (some 13) rfl rfl Try.func51 (by kernel_rfl) rfl #[.int .i64 a1, .int .i64 0, .int .i64 1000000] rfl (by (try simp only [List.map_toArray, List.map_cons, List.map_nil]); first | done | rfl | (simp only [List.length_drop, List.length_take]; rfl) | (go_simp; done) | (simp; done) | (simp; rfl)) ?_; (with_reducible refine (impl_within.calls a1 0 1000000 false _ A9.out).mono ?_); rintro e w' ⟨rfl, ⟨nd, rfl⟩⟩; refine ⟨_, rfl, ?_⟩))
        go_meet
        case rel => exact ⟨_, (true), (by first | rfl | (simp; done) | (simp [*]; done)), H', ⟨by first | omega | exact Nat.le_refl _⟩, ⟨by (with_reducible repeat (first | apply Kd.R_alloc | apply Kd.R_drewN | apply Kd.R_drew)); exact HO0.out⟩, ⟨by repeat (first | (with_reducible first | exact HK.out | apply Kept.alloc | apply Kept.drewN | apply Kept.drew) | exact HK.out)⟩, ⟨by repeat (first | (with_reducible first | exact HB.out | apply below_alloc | apply pw_below_drewN | apply below_drew1) | exact HB.out)⟩⟩
    case rest =>
      clear HC6
      try clear c1
      try clear p2
      try clear c5
      try clear c10
      obtain ⟨kq, x18_5, rfl, HA, HJ5, HO_0, HK, HB⟩ := hcut
      cases kq with
      | zero => exact absurd HA.out (by simp [impl_layersTo.j0])
      | succ kj5 =>
        have H := HA.out
        clear HA
        simp only [impl_layersTo.j0] at H
        by_cases c11 : x18_5 = true
        · subst c11
          have H1 : (some (([] : List (S55)), 2)) = some (r1, r2) := by rw [if_pos rfl] at H; exact H
          clear H
          have H := H1
          clear H1
          simp only [Option.some.injEq, Prod.mk.injEq] at H
          obtain ⟨rfl, rfl⟩ := H
          go_wp2
          go_ret2
          exact ⟨_, by first | rfl | (simp [errW_none, errW_some] <;> rfl) | (simp [*, errW_none, errW_some] <;> rfl), by first | exact Kd.R_nil _ _ _ _ _ | exact Kd.N_nil _ _ _ _ _ | exact Kd.V_nil _ _ _ _ _ | exact Kd.Q_nil _ _ _ _ _ | exact Kd.S_nil _ _ _ _ _, by repeat (first | (with_reducible first | exact HB.out | apply below_alloc | apply pw_below_drewN | apply below_drew1) | exact HB.out), by repeat (first | (with_reducible first | exact HK.out | apply Kept.alloc | apply Kept.drewN | apply Kept.drew) | exact HK.out)⟩
        · replace c11 := Bool.eq_false_iff.mpr c11
          subst c11
          have H1 : ((impl_layerOf.f kj5 l0 a1).bind fun t168 => (if t168 < 0 then (some (([] : List (S55)), 4)) else (if 0 ≤ (wrap64 (t168 + 1)) then (if (wrap64 (t168 + 1)) ≤ (l0.length : Int) then (some ((l0.take ((wrap64 (t168 + 1)) : Int).toNat), 0)) else (none)) else (none)))) = some (r1, r2) := by rw [if_neg (show ¬ (false = true) by decide)] at H; exact H
          clear H
          have H := H1
          clear H1
          replace H := Option.bind_eq_some_iff.mp H
          obtain ⟨t168, A120, H⟩ := H
          replace H : (if t168 < 0 then (some (([] : List (S55)), 4)) else (if 0 ≤ (wrap64 (t168 + 1)) then (if (wrap64 (t168 + 1)) ≤ (l0.length : Int) then (some ((l0.take ((wrap64 (t168 + 1)) : Int).toNat), 0)) else (none)) else (none))) = some (r1, r2) := H
          have A12 := Aside0.mk A120
          clear A120
          by_cases c13 : t168 < 0
          · rw [if_pos c13] at H
            have c13b0 : decide (t168 < 0) = true := decide_eq_true c13
            clear c13
            simp only [Option.some.injEq, Prod.mk.injEq] at H
            obtain ⟨rfl, rfl⟩ := H
            go_wp2_with (first | ((with_reducible refine gate_callee (f := 60) rfl ?_); refine goesL_ (some 21) rfl rfl Try.func60 (by kernel_rfl) rfl #[.slice Ao7 l0.length co7, .int .i64 a1] rfl (by (try simp only [List.map_toArray, List.map_cons, List.map_nil]); first | done | rfl | (simp only [List.length_drop, List.length_take]; rfl) | (go_simp; done) | (simp; done) | (simp; rfl)) ?_; (with_reducible refine (impl_layerOf.calls kj5 _ _ l0 a1 t168 _ ?side1 ?side2 A12.out).mono ?_); (case side1 => repeat (first | exact (Kd.R_reads' HO_0.out).2.2 | (with_reducible refine Kd.C_alloc ?_ _) | (with_reducible refine Kd.C_drewN ?_ _) | (with_reducible refine Kd.C_drew ?_))); (case side2 => exact (Kd.R_reads' HO_0.out).2.1); rintro e w14 ⟨rfl, hb⟩; refine ⟨_, rfl, ?_⟩; have n0_ := Aside0.mk (Kd.R_below (by (with_reducible repeat (first | apply Kd.R_alloc | apply Kd.R_drewN | apply Kd.R_drew)); exact HO_0.out) hb); have n1_ := Aside0.mk (Kept.below (S := (fun k_ => P0_ k_)) (by repeat (first | (with_reducible first | exact HK.out | apply Kept.alloc | apply Kept.drewN | apply Kept.drew) | exact HK.out)) hb); have n2_ := Aside0.mk (below_step (by repeat (first | (with_reducible first | exact HB.out | apply below_alloc | apply pw_below_drewN | apply below_drew1) | exact HB.out)) hb); clear HO_0; clear HK; clear HB; have HO_0 := n0_; have HK := n1_; have HB := n2_; clear n0_ n1_ n2_; (try clear hb); (try clear hb2); (try clear hk); (try clear hi)))
            go_ret2
            exact ⟨_, by first | rfl | (simp [errW_none, errW_some] <;> rfl) | (simp [*, errW_none, errW_some] <;> rfl), by first | exact Kd.R_nil _ _ _ _ _ | exact Kd.N_nil _ _ _ _ _ | exact Kd.V_nil _ _ _ _ _ | exact Kd.Q_nil _ _ _ _ _ | exact Kd.S_nil _ _ _ _ _, by repeat (first | (with_reducible first | exact HB.out | apply below_alloc | apply pw_below_drewN | apply below_drew1) | exact HB.out), by repeat (first | (with_reducible first | exact HK.out | apply Kept.alloc | apply Kept.drewN | apply Kept.drew) | exact HK.out)⟩
          · rw [if_neg c13] at H
            have c13b0 : decide (t168 < 0) = false := decide_eq_false c13
            clear c13
            obtain ⟨ji15, hji15⟩ : ∃ j_ : Int, (wrap64 (t168 + 1)) = j_ := ⟨_, rfl⟩
            replace H : (if 0 ≤ (ji15) then (if (ji15) ≤ (l0.length : Int) then (some ((l0.take ((ji15) : Int).toNat), 0)) else (none)) else (none)) = some (r1, r2) := by first | (rw [hji15] at H; exact H) | (simp only [hji15] at H ⊢; exact H)
            (try rw [hji15] at A12)
            have hji15w : (IntKind.i64.wrap (t168 + 1)) = ji15 := (i64_w _).trans hji15
            by_cases c16 : 0 ≤ (ji15)
            · rw [if_pos c16] at H
              have c16b0 := eq_true c16
              have c16b1 : decide (0 ≤ (ji15)) = true := decide_eq_true c16
              clear c16
              by_cases c17 : (ji15) ≤ (l0.length : Int)
              · rw [if_pos c17] at H
                have c17b0 := eq_true c17
                have c17b1 : decide ((ji15) ≤ (l0.length : Int)) = true := decide_eq_true c17
                clear c17
                obtain ⟨y169, hy169⟩ : ∃ y_ : List (S55), y_ = (l0.take ((ji15) : Int).toNat) := ⟨_, rfl⟩
                replace H : (some (y169, 0)) = some (r1, r2) := by first | (rw [hy169]; with_reducible exact H) | (have H2_ := (Option.bind_some _ _).symm.trans H; rw [hy169]; with_reducible exact H2_) | (have H2_ := (Option.bind_some _ _).symm.trans H; with_reducible exact H2_) | with_reducible exact H | (rw [hy169]; exact H) | exact H
                have Ny169 := Aside0.mk hy169
                clear hy169
                simp only [Option.some.injEq, Prod.mk.injEq] at H
                obtain ⟨rfl, rfl⟩ := H
                go_wp2_with (first | ((with_reducible refine gate_callee (f := 60) rfl ?_); refine goesL_ (some 21) rfl rfl Try.func60 (by kernel_rfl) rfl #[.slice Ao7 l0.length co7, .int .i64 a1] rfl (by (try simp only [List.map_toArray, List.map_cons, List.map_nil]); first | done | rfl | (simp only [List.length_drop, List.length_take]; rfl) | (go_simp; done) | (simp; done) | (simp; rfl)) ?_; (with_reducible refine (impl_layerOf.calls kj5 _ _ l0 a1 t168 _ ?side1 ?side2 A12.out).mono ?_); (case side1 => repeat (first | exact (Kd.R_reads' HO_0.out).2.2 | (with_reducible refine Kd.C_alloc ?_ _) | (with_reducible refine Kd.C_drewN ?_ _) | (with_reducible refine Kd.C_drew ?_))); (case side2 => exact (Kd.R_reads' HO_0.out).2.1); rintro e w18 ⟨rfl, hb⟩; refine ⟨_, rfl, ?_⟩; have n0_ := Aside0.mk (Kd.R_below (by (with_reducible repeat (first | apply Kd.R_alloc | apply Kd.R_drewN | apply Kd.R_drew)); exact HO_0.out) hb); have n1_ := Aside0.mk (Kept.below (S := (fun k_ => P0_ k_)) (by repeat (first | (with_reducible first | exact HK.out | apply Kept.alloc | apply Kept.drewN | apply Kept.drew) | exact HK.out)) hb); have n2_ := Aside0.mk (below_step (by repeat (first | (with_reducible first | exact HB.out | apply below_alloc | apply pw_below_drewN | apply below_drew1) | exact HB.out)) hb); clear HO_0; clear HK; clear HB; have HO_0 := n0_; have HK := n1_; have HB := n2_; clear n0_ n1_ n2_; (try clear hb); (try clear hb2); (try clear hk); (try clear hi); have q19 : ((ji15) : Int) ≤ ((l0.length : Int) : Int) := of_decide_eq_true (by first | (with_reducible assumption) | assumption); obtain ⟨i019, hi019, _, hsz19, _⟩ := info_parts info55; have hcut19 := cut_to (P := Try.prog) 25 55 .i64 Try.underlying25 hi019 Ao7 l0.length co7 (ji15) (of_decide_eq_true (by first | (with_reducible assumption) | assumption)) q19 (Kd.R_reads' HO_0.out).2.1; have hr19 := Kd.R_take (m := ((ji15) : Int).toNat) HO_0.out (by omega); have hy19 : y169.length = ((ji15) : Int).toNat := (by rw [Ny169.out, List.length_take]; omega); rw [← Ny169.out] at hr19; rw [← hy19] at hr19 hcut19; clear hy19 hi019 hsz19 HO_0; have HO171 := Aside0.mk hr19; clear hr19; replace q19 := eq_true q19))
                go_ret2
                exact ⟨_, by first | rfl | (simp [errW_none, errW_some] <;> rfl) | (simp only [← hji15]; first | rfl | (simp [errW_none, errW_some] <;> rfl)) | (simp [*, errW_none, errW_some] <;> rfl), by (with_reducible repeat (first | apply Kd.R_alloc | apply Kd.R_drewN | apply Kd.R_drew)); exact HO171.out, by repeat (first | (with_reducible first | exact HB.out | apply below_alloc | apply pw_below_drewN | apply below_drew1) | exact HB.out), by repeat (first | (with_reducible first | exact HK.out | apply Kept.alloc | apply Kept.drewN | apply Kept.drew) | exact HK.out)⟩
              · rw [if_neg c17] at H
                exact absurd H (by simp)
            · rw [if_neg c16] at H
              exact absurd H (by simp)
  · replace c5 := Bool.eq_false_iff.mpr c5
    subst c5
    have H1 : (some (([] : List (S55)), 1)) = some (r1, r2) := by rw [if_neg (show ¬ (false = true) by decide)] at H; exact H
    clear H
    have H := H1
    clear H1
    simp only [Option.some.injEq, Prod.mk.injEq] at H
    obtain ⟨rfl, rfl⟩ := H
    obtain ⟨Ao20, co20, eo20⟩ := Kd.R_slice HO0.out
    subst eo20
    go_enter Try.func55, Try.ntmps55
    go_wp2_with (first | ((with_reducible refine gate_callee (f := 17) rfl ?_); refine goesL_ (some 10) rfl rfl Try.func17 (by kernel_rfl) rfl #[.slice Ao20 l0.length co20] rfl (by (try simp only [List.map_toArray, List.map_cons, List.map_nil]); first | done | rfl | (simp only [List.length_drop, List.length_take]; rfl) | (go_simp; done) | (simp; done) | (simp; rfl)) ?_; (with_reducible refine (impl_IsProfile.calls k _ _ l0 false _ ?side1 ?side2 A4.out).mono ?_); (case side1 => repeat (first | exact (Kd.R_reads' HO0.out).2.2 | (with_reducible refine Kd.C_alloc ?_ _) | (with_reducible refine Kd.C_drewN ?_ _) | (with_reducible refine Kd.C_drew ?_))); (case side2 => exact (Kd.R_reads' HO0.out).2.1); rintro e w21 ⟨rfl, hb⟩; refine ⟨_, rfl, ?_⟩; have n0_ := Aside0.mk (Kd.R_below (by (with_reducible repeat (first | apply Kd.R_alloc | apply Kd.R_drewN | apply Kd.R_drew)); exact HO0.out) hb); have n1_ := Aside0.mk (Kept.below (S := (fun k_ => P0_ k_)) (by repeat (first | (with_reducible first | exact HK.out | apply Kept.alloc | apply Kept.drewN | apply Kept.drew) | exact HK.out)) hb); have n2_ := Aside0.mk (below_step (by repeat (first | (with_reducible first | exact HB.out | apply below_alloc | apply pw_below_drewN | apply below_drew1) | exact HB.out)) hb); clear HO0; clear HK; clear HB; have HO0 := n0_; have HK := n1_; have HB := n2_; clear n0_ n1_ n2_; (try clear hb); (try clear hb2); (try clear hk); (try clear hi)))
    go_ret2
    exact ⟨_, by first | rfl | (simp [errW_none, errW_some] <;> rfl) | (simp [*, errW_none, errW_some] <;> rfl), by first | exact Kd.R_nil _ _ _ _ _ | exact Kd.N_nil _ _ _ _ _ | exact Kd.V_nil _ _ _ _ _ | exact Kd.Q_nil _ _ _ _ _ | exact Kd.S_nil _ _ _ _ _, by repeat (first | (with_reducible first | exact HB.out | apply below_alloc | apply pw_below_drewN | apply below_drew1) | exact HB.out), by repeat (first | (with_reducible first | exact HK.out | apply Kept.alloc | apply Kept.drewN | apply Kept.drew) | exact HK.out)⟩

end Go.Proofs.Ytidibjmckgbpbaa.QFnExactIsCalm
