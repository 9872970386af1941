-- Written by a program of this project's session, after the kit's print (a turned copy of its programs). Lean checks it.
import Derived.Test.YtmepklccbogibaaQFnExactMixedGroupsx0
import Derived.Test.YtmepklccbogibaaQFnExactMixedGroupsx3
import Derived.Test.YtmepklccbogibaaQFnExactMixedGroupsx7
namespace Go.Proofs.Ytmepklccbogibaa.QFnExactMixedGroups
open Go.RowKit Go.Proofs.YtmepklccbogibaaW.PrintWords Go.Proofs.YtmepklccbogibaaW.PrintLast Go.Proofs.YtmepklccbogibaaW.PrintMore
attribute [local go_sem] max2_int min2_int max_two min_two max_three min_three max_four min_four   -- for this text's walks alone
set_option linter.unusedVariables false
set_option linter.unusedSimpArgs false

/-! ### laws_eqArticleS: function 81 -/
def laws_eqArticleS.l0 : Nat → List (S26) → List (S26) → Int → Option (Bool)
 | 0, _, _, _ => none
 | k + 1, x0, x1, x5 => if x5 < (x0.length : Int) then (if 0 ≤ x5 then (if x5 < (x1.length : Int) then ((laws_eqArticle.f ((rd_T26 x0 x5).f0) ((rd_T26 x0 x5).f1) ((rd_T26 x0 x5).f2) ((rd_T26 x0 x5).f3) ((rd_T26 x0 x5).f4) ((rd_T26 x0 x5).f5) ((rd_T26 x0 x5).f6) ((rd_T26 x0 x5).f7) ((rd_T26 x0 x5).f8) ((rd_T26 x1 x5).f0) ((rd_T26 x1 x5).f1) ((rd_T26 x1 x5).f2) ((rd_T26 x1 x5).f3) ((rd_T26 x1 x5).f4) ((rd_T26 x1 x5).f5) ((rd_T26 x1 x5).f6) ((rd_T26 x1 x5).f7) ((rd_T26 x1 x5).f8)).bind fun t206 => (if t206 = true then (laws_eqArticleS.l0 k x0 x1 (wrap64 (x5 + 1))) else (some false))) else (none)) else (none)) else (some true)
def laws_eqArticleS.f (k : Nat) (l0 : List (S26)) (l1 : List (S26)) : Option (Bool) := if (l0.length : Int) = (l1.length : Int) then (laws_eqArticleS.l0 k l0 l1 0) else (some false)
theorem laws_eqArticleS.mono_l : ∀ k, (∀ y0 y1 y2, LeO (laws_eqArticleS.l0 k y0 y1 y2) (laws_eqArticleS.l0 (k + 1) y0 y1 y2))
 | 0 => fun _ _ _ r h => by simp [laws_eqArticleS.l0] at h
 | k + 1 => by
  have ih0 := laws_eqArticleS.mono_l k
  ·
   intro y0 y1 y2
   unfold laws_eqArticleS.l0
   repeat' first
   | (with_reducible exact ih0 _ _ _)
   | (with_reducible exact LeO.refl _)
   | (with_reducible exact LeO.none _)
   | (with_reducible refine LeO.ite ?_ ?_)
   | (with_reducible refine LeO.bind ?_ (fun _ => ?_))
   | exact ih0 _ _ _
   | exact LeO.none _
   | refine LeO.ite ?_ ?_
   | refine LeO.bind ?_ (fun _ => ?_)
theorem laws_eqArticleS.mono : ∀ a0 a1 k, LeO (laws_eqArticleS.f k a0 a1) (laws_eqArticleS.f (k + 1) a0 a1) := by
 intro a0 a1 k
 have ih0 := laws_eqArticleS.mono_l k
 unfold laws_eqArticleS.f
 repeat' first
   | (with_reducible exact ih0 _ _ _)
   | (with_reducible exact LeO.refl _)
   | (with_reducible exact LeO.none _)
   | (with_reducible refine LeO.ite ?_ ?_)
   | (with_reducible refine LeO.bind ?_ (fun _ => ?_))
   | exact ih0 _ _ _
   | exact LeO.none _
   | refine LeO.ite ?_ ?_
   | refine LeO.bind ?_ (fun _ => ?_)
def laws_eqArticleS.T6 : Bool × List (List Nat × List Nat) := (true, [([], []), ([], []), ([0, 1], [0, 1]), ([2], [2]), ([], []), ([], []), ([4, 5], [4, 5]), ([6], [6]), ([3, 7], [3, 7]), ([8], [8])])
def laws_eqArticleS.B6 : List Nat := [0, 0, 3, 7, 0, 0, 48, 112, 255, 511]
theorem laws_eqArticleS.tab6 : rtab .any (opsOf Try.f81 6) = laws_eqArticleS.T6 := by kernel_rfl
theorem laws_eqArticleS.bits6 : waitsOk laws_eqArticleS.T6.2 laws_eqArticleS.B6 = true := by kernel_rfl
set_option maxHeartbeats 40000000 in
set_option maxRecDepth 100000 in
theorem laws_eqArticleS.calls (k : Nat) (A0 : Option Addr) (c0 : Nat) (l0 : List (S26)) (A1 : Option Addr) (c1 : Nat) (l1 : List (S26)) (r : Bool) (w : World) (hr0 : Kd.C k26 w A0 l0.length l0) (hc0 : l0.length ≤ c0) (hr1 : Kd.C k26 w A1 l1.length l1) (hc1 : l1.length ≤ c1) (h : laws_eqArticleS.f k l0 l1 = some r) :
  Calls Try.prog 81 #[.slice A0 l0.length c0, .slice A1 l1.length c1] w fun e w' => e = .returned (.bool r) ∧ Below w.heap.size w w' := by
 have hu26 := Try.underlying26
 have HR0 := Aside0.mk hr0
 have HC0 := Aside0.mk hc0
 clear hr0 hc0
 have HR1 := Aside0.mk hr1
 have HC1 := Aside0.mk hc1
 clear hr1 hc1
 have HB := Aside0.mk (Below.refl w.heap.size w)
 have H : (if (l0.length : Int) = (l1.length : Int) then (laws_eqArticleS.l0 k l0 l1 0) else (some false)) = some r := h
 clear h
 by_cases c3 : (l0.length : Int) = (l1.length : Int)
 ·
  rw [if_pos c3] at H
  have c3b0 : ((l0.length : Int) == (l1.length : Int)) = true := beq_iff_eq.mpr c3
  have c3b1 : ((l0.length : Int) != (l1.length : Int)) = false := bne_eq_false_iff_eq.mpr c3
  have c3b2 : (l0.length == l1.length) = true := by first | simpa using c3 | (simp at c3 ⊢; omega)
  clear c3
  have H' := Aside0.mk H
  clear H
  go_enter Try.func81, Try.ntmps81
  go_wp2
  go_loopg [5] k (fun kq v5 w' => ∃ (x5_1 : Int), v5 = .int .i64 x5_1 ∧ Aside0 (laws_eqArticleS.l0 kq l0 l1 x5_1 = some r) ∧ Aside0 (kq ≤ k) ∧ Aside0 (Below w.heap.size w w'))
  case atStart => exact ⟨(0), (by first | rfl | (simp; done) | (simp [*]; done)), H', ⟨Nat.le_refl _⟩, ⟨by repeat (first | (with_reducible first | exact HB.out | apply lA | apply lN | apply lD) | exact HB.out)⟩⟩
  case round =>
   clear H'
   try clear c1
   try clear p2
   try clear c3
   try clear c3b0
   try clear c3b1
   try clear c3b2
   obtain ⟨x5_1, rfl, HA, HK1, HB⟩ := hrel
   cases gk with
   | zero => exact absurd HA.out (by simp [laws_eqArticleS.l0])
   | succ k1 =>
    have H := HA.out
    clear HA
    simp only [laws_eqArticleS.l0] at H
    by_cases c4 : x5_1 < (l0.length : Int)
    ·
     rw [if_pos c4] at H
     have c4b0 : decide (x5_1 < (l0.length : Int)) = true := decide_eq_true c4
     clear c4
     by_cases c5 : 0 ≤ x5_1
     ·
      rw [if_pos c5] at H
      have c5b0 : decide (0 ≤ x5_1) = true := decide_eq_true c5
      clear c5
      by_cases c6 : x5_1 < (l1.length : Int)
      ·
       rw [if_pos c6] at H
       have c6b0 : decide (x5_1 < (l1.length : Int)) = true := decide_eq_true c6
       clear c6
       replace H := Option.bind_eq_some_iff.mp H
       obtain ⟨t206, A70, H⟩ := H
       replace H : (if t206 = true then (laws_eqArticleS.l0 k1 l0 l1 (wrap64 (x5_1 + 1))) else (some false)) = some r := H
       have A7 := Aside0.mk A70
       clear A70
       by_cases c8 : t206 = true
       ·
        subst c8
        have H1 : (laws_eqArticleS.l0 k1 l0 l1 (wrap64 (x5_1 + 1))) = some r := by rw [if_pos rfl] at H; exact H
        clear H
        have H := H1
        clear H1
        have H' := Aside0.mk H
        clear H
        try go_wp2
        have n0_ := Aside0.mk (below_drew1 HB.out)
        clear HB
        have HB := n0_
        clear n0_
        have p204 : 0 ≤ (x5_1 : Int) := of_decide_eq_true (by with_reducible assumption)
        have q204 : x5_1 < (l0.length : Int) := of_decide_eq_true (by with_reducible assumption)
        obtain ⟨ad204, e204, hx204_0, hx204_1, hx204_2, hx204_3, hx204_4, hx204_5, hx204_6, hx204_7, hx204_8⟩ := at_T26 HR0.out x5_1 p204 q204
        have hw204_8 := hx204_8
        have hw204_7 := hx204_7
        have hw204_6 := hx204_6
        have hw204_5 := hx204_5
        have hw204_4 := hx204_4
        have hw204_3 := hx204_3
        have hw204_2 := hx204_2
        have hw204_1 := hx204_1
        have hw204_0 := hx204_0
        cases e204
        replace hx204_0 := cB HB.out hx204_0
        replace hx204_1 := cB HB.out hx204_1
        replace hx204_2 := cB HB.out hx204_2
        replace hx204_3 := cB HB.out hx204_3
        replace hx204_4 := cB HB.out hx204_4
        replace hx204_5 := cB HB.out hx204_5
        replace hx204_6 := cB HB.out hx204_6
        replace hx204_7 := cB HB.out hx204_7
        replace hx204_8 := cB HB.out hx204_8
        replace p204 := eq_true p204
        replace q204 := eq_true q204
        have p205 : 0 ≤ (x5_1 : Int) := of_decide_eq_true (by with_reducible assumption)
        have q205 : x5_1 < (l1.length : Int) := of_decide_eq_true (by with_reducible assumption)
        obtain ⟨ad205, e205, hx205_0, hx205_1, hx205_2, hx205_3, hx205_4, hx205_5, hx205_6, hx205_7, hx205_8⟩ := at_T26 HR1.out x5_1 p205 q205
        have hw205_8 := hx205_8
        have hw205_7 := hx205_7
        have hw205_6 := hx205_6
        have hw205_5 := hx205_5
        have hw205_4 := hx205_4
        have hw205_3 := hx205_3
        have hw205_2 := hx205_2
        have hw205_1 := hx205_1
        have hw205_0 := hx205_0
        cases e205
        replace hx205_0 := cB HB.out hx205_0
        replace hx205_1 := cB HB.out hx205_1
        replace hx205_2 := cB HB.out hx205_2
        replace hx205_3 := cB HB.out hx205_3
        replace hx205_4 := cB HB.out hx205_4
        replace hx205_5 := cB HB.out hx205_5
        replace hx205_6 := cB HB.out hx205_6
        replace hx205_7 := cB HB.out hx205_7
        replace hx205_8 := cB HB.out hx205_8
        replace p205 := eq_true p205
        replace q205 := eq_true q205
        refine start_ (n := 10) (S := fun w' => w'.cell? (ad204.add ((x5_1).toNat * 9)) = some (.string ((rd_T26 l0 x5_1).f0)) ∧ w'.cell? ⟨(ad204.add ((x5_1).toNat * 9)).block, (ad204.add ((x5_1).toNat * 9)).off + 1, none⟩ = some (.int .i64 ((rd_T26 l0 x5_1).f1)) ∧ w'.cell? ⟨(ad204.add ((x5_1).toNat * 9)).block, (ad204.add ((x5_1).toNat * 9)).off + 2, none⟩ = some (.int .i64 ((rd_T26 l0 x5_1).f2)) ∧ w'.cell? ⟨(ad204.add ((x5_1).toNat * 9)).block, (ad204.add ((x5_1).toNat * 9)).off + 3, none⟩ = some (.int .i64 ((rd_T26 l0 x5_1).f3)) ∧ w'.cell? ⟨(ad204.add ((x5_1).toNat * 9)).block, (ad204.add ((x5_1).toNat * 9)).off + 4, none⟩ = some (.int .i64 ((rd_T26 l0 x5_1).f4)) ∧ w'.cell? ⟨(ad204.add ((x5_1).toNat * 9)).block, (ad204.add ((x5_1).toNat * 9)).off + 5, none⟩ = some (.int .i64 ((rd_T26 l0 x5_1).f5)) ∧ w'.cell? ⟨(ad204.add ((x5_1).toNat * 9)).block, (ad204.add ((x5_1).toNat * 9)).off + 6, none⟩ = some (.int .i64 ((rd_T26 l0 x5_1).f6)) ∧ w'.cell? ⟨(ad204.add ((x5_1).toNat * 9)).block, (ad204.add ((x5_1).toNat * 9)).off + 7, none⟩ = some (.int .i64 ((rd_T26 l0 x5_1).f7)) ∧ w'.cell? ⟨(ad204.add ((x5_1).toNat * 9)).block, (ad204.add ((x5_1).toNat * 9)).off + 8, none⟩ = some (.int .i64 ((rd_T26 l0 x5_1).f8)) ∧ w'.cell? (ad205.add ((x5_1).toNat * 9)) = some (.string ((rd_T26 l1 x5_1).f0)) ∧ w'.cell? ⟨(ad205.add ((x5_1).toNat * 9)).block, (ad205.add ((x5_1).toNat * 9)).off + 1, none⟩ = some (.int .i64 ((rd_T26 l1 x5_1).f1)) ∧ w'.cell? ⟨(ad205.add ((x5_1).toNat * 9)).block, (ad205.add ((x5_1).toNat * 9)).off + 2, none⟩ = some (.int .i64 ((rd_T26 l1 x5_1).f2)) ∧ w'.cell? ⟨(ad205.add ((x5_1).toNat * 9)).block, (ad205.add ((x5_1).toNat * 9)).off + 3, none⟩ = some (.int .i64 ((rd_T26 l1 x5_1).f3)) ∧ w'.cell? ⟨(ad205.add ((x5_1).toNat * 9)).block, (ad205.add ((x5_1).toNat * 9)).off + 4, none⟩ = some (.int .i64 ((rd_T26 l1 x5_1).f4)) ∧ w'.cell? ⟨(ad205.add ((x5_1).toNat * 9)).block, (ad205.add ((x5_1).toNat * 9)).off + 5, none⟩ = some (.int .i64 ((rd_T26 l1 x5_1).f5)) ∧ w'.cell? ⟨(ad205.add ((x5_1).toNat * 9)).block, (ad205.add ((x5_1).toNat * 9)).off + 6, none⟩ = some (.int .i64 ((rd_T26 l1 x5_1).f6)) ∧ w'.cell? ⟨(ad205.add ((x5_1).toNat * 9)).block, (ad205.add ((x5_1).toNat * 9)).off + 7, none⟩ = some (.int .i64 ((rd_T26 l1 x5_1).f7)) ∧ w'.cell? ⟨(ad205.add ((x5_1).toNat * 9)).block, (ad205.add ((x5_1).toNat * 9)).off + 8, none⟩ = some (.int .i64 ((rd_T26 l1 x5_1).f8))) (ds := []) #[false, false, false, false, false, false, false, false, false, false] (by kernel_rfl) rfl rfl ⟨((HB.out.cell (World.block_lt_of_cell? _ _ hw204_0)).trans hw204_0), ((HB.out.cell (World.block_lt_of_cell? _ _ hw204_1)).trans hw204_1), ((HB.out.cell (World.block_lt_of_cell? _ _ hw204_2)).trans hw204_2), ((HB.out.cell (World.block_lt_of_cell? _ _ hw204_3)).trans hw204_3), ((HB.out.cell (World.block_lt_of_cell? _ _ hw204_4)).trans hw204_4), ((HB.out.cell (World.block_lt_of_cell? _ _ hw204_5)).trans hw204_5), ((HB.out.cell (World.block_lt_of_cell? _ _ hw204_6)).trans hw204_6), ((HB.out.cell (World.block_lt_of_cell? _ _ hw204_7)).trans hw204_7), ((HB.out.cell (World.block_lt_of_cell? _ _ hw204_8)).trans hw204_8), ((HB.out.cell (World.block_lt_of_cell? _ _ hw205_0)).trans hw205_0), ((HB.out.cell (World.block_lt_of_cell? _ _ hw205_1)).trans hw205_1), ((HB.out.cell (World.block_lt_of_cell? _ _ hw205_2)).trans hw205_2), ((HB.out.cell (World.block_lt_of_cell? _ _ hw205_3)).trans hw205_3), ((HB.out.cell (World.block_lt_of_cell? _ _ hw205_4)).trans hw205_4), ((HB.out.cell (World.block_lt_of_cell? _ _ hw205_5)).trans hw205_5), ((HB.out.cell (World.block_lt_of_cell? _ _ hw205_6)).trans hw205_6), ((HB.out.cell (World.block_lt_of_cell? _ _ hw205_7)).trans hw205_7), ((HB.out.cell (World.block_lt_of_cell? _ _ hw205_8)).trans hw205_8)⟩ (fun hHeld => ?_); refine with_tabW laws_eqArticleS.tab6 laws_eqArticleS.bits6 (fun HT_ HW_ => ?_)
        generalize wr.drew = w9 at HB hx204_0 hx204_1 hx204_2 hx204_3 hx204_4 hx204_5 hx204_6 hx204_7 hx204_8 hx205_0 hx205_1 hx205_2 hx205_3 hx205_4 hx205_5 hx205_6 hx205_7 hx205_8 hHeld ⊢
        refine pure_ (i := 0) (N := some 17) (v := ?_) (a' := ?_) #[true, false, false, false, false, false, false, false, false, false] rfl rfl (any_of HT_.out (by kernel_rfl)) (fun _ _ _ h => h) (Or.inl ⟨by rfl, ?_⟩) ?_ ?_
        rotate_left
        ·
         intro w'
         go_simp
         with_reducible rfl
        rotate_left
        ·
         simp only [Act.put, sT, s0, sS, i64_w, i32_w]
         rfl
        refine pure_ (i := 1) (N := some 18) (v := ?_) (a' := ?_) #[true, true, false, false, false, false, false, false, false, false] rfl rfl (any_of HT_.out (by kernel_rfl)) (fun _ _ _ h => h) (Or.inl ⟨by rfl, ?_⟩) ?_ ?_
        rotate_left
        ·
         intro w'
         go_simp
         with_reducible rfl
        rotate_left
        ·
         simp only [Act.put, sT, s0, sS, i64_w, i32_w]
         rfl
        refine pure_ (i := 2) (N := some 19) (v := ?_) (a' := ?_) #[true, true, true, false, false, false, false, false, false, false] rfl rfl (any_of HT_.out (by kernel_rfl)) (fun _ _ _ h => h) (Or.inl ⟨by rfl, ?_⟩) ?_ ?_
        rotate_left
        ·
         intro w'
         go_simp
         with_reducible rfl
        rotate_left
        ·
         simp only [Act.put, sT, s0, sS, i64_w, i32_w]
         rfl
        refine pure_ (i := 4) (N := some 21) (v := ?_) (a' := ?_) #[true, true, true, false, true, false, false, false, false, false] rfl rfl (any_of HT_.out (by kernel_rfl)) (fun _ _ _ h => h) (Or.inl ⟨by rfl, ?_⟩) ?_ ?_
        rotate_left
        ·
         intro w'
         go_simp
         with_reducible rfl
        rotate_left
        ·
         simp only [Act.put, sT, s0, sS, i64_w, i32_w]
         rfl
        refine pure_ (i := 5) (N := some 22) (v := ?_) (a' := ?_) #[true, true, true, false, true, true, false, false, false, false] rfl rfl (any_of HT_.out (by kernel_rfl)) (fun _ _ _ h => h) (Or.inl ⟨by rfl, ?_⟩) ?_ ?_
        rotate_left
        ·
         intro w'
         go_simp
         with_reducible rfl
        rotate_left
        ·
         simp only [Act.put, sT, s0, sS, i64_w, i32_w]
         rfl
        refine pure_ (i := 6) (N := some 23) (v := ?_) (a' := ?_) #[true, true, true, false, true, true, true, false, false, false] rfl rfl (any_of HT_.out (by kernel_rfl)) (fun _ _ _ h => h) (Or.inl ⟨by rfl, ?_⟩) ?_ ?_
        rotate_left
        ·
         intro w'
         go_simp
         with_reducible rfl
        rotate_left
        ·
         simp only [Act.put, sT, s0, sS, i64_w, i32_w]
         rfl
        refine take_ (i := 3) (N := some 20) (v := ?_) (a' := ?_) #[true, true, true, true, true, true, true, false, false, false] rfl rfl (take_ofW HT_.out HW_.out (by kernel_rfl)) (fun _ _ _ h => h) (Or.inl ⟨by rfl, ?_⟩) hHeld ?_ ?_
        rotate_left
        ·
         rintro w' ⟨s0, s1, s2, s3, s4, s5, s6, s7, s8, s9, s10, s11, s12, s13, s14, s15, s16, s17⟩
         go_simp
         with_reducible rfl
        rotate_left
        ·
         simp only [Act.put, sT, s0, sS, i64_w, i32_w]
         rfl
        refine take_ (i := 7) (N := some 24) (v := ?_) (a' := ?_) #[true, true, true, true, true, true, true, true, false, false] rfl rfl (take_ofW HT_.out HW_.out (by kernel_rfl)) (fun _ _ _ h => h) (Or.inl ⟨by rfl, ?_⟩) hHeld ?_ ?_
        rotate_left
        ·
         rintro w' ⟨s0, s1, s2, s3, s4, s5, s6, s7, s8, s9, s10, s11, s12, s13, s14, s15, s16, s17⟩
         go_simp
         with_reducible rfl
        rotate_left
        ·
         simp only [Act.put, sT, s0, sS, i64_w, i32_w]
         rfl
        refine one_ (i := 8) (N := some 25) #[true, true, true, true, true, true, true, true, true, false] rfl rfl (one_of HT_.out (by kernel_rfl)) (by decide) (fun K hK => ?_)
        refine goes_ Try.func46 (by kernel_rfl) rfl #[.agg #[.string ((rd_T26 l0 x5_1).f0), .int .i64 ((rd_T26 l0 x5_1).f1), .int .i64 ((rd_T26 l0 x5_1).f2), .int .i64 ((rd_T26 l0 x5_1).f3), .int .i64 ((rd_T26 l0 x5_1).f4), .int .i64 ((rd_T26 l0 x5_1).f5), .int .i64 ((rd_T26 l0 x5_1).f6), .int .i64 ((rd_T26 l0 x5_1).f7), .int .i64 ((rd_T26 l0 x5_1).f8)], .agg #[.string ((rd_T26 l1 x5_1).f0), .int .i64 ((rd_T26 l1 x5_1).f1), .int .i64 ((rd_T26 l1 x5_1).f2), .int .i64 ((rd_T26 l1 x5_1).f3), .int .i64 ((rd_T26 l1 x5_1).f4), .int .i64 ((rd_T26 l1 x5_1).f5), .int .i64 ((rd_T26 l1 x5_1).f6), .int .i64 ((rd_T26 l1 x5_1).f7), .int .i64 ((rd_T26 l1 x5_1).f8)]] (by rfl) rfl rfl (by (try simp only [List.map_toArray, List.map_cons, List.map_nil]); first | done | rfl | (go_simp; done) | simp) ?_
        with_reducible refine (laws_eqArticle.calls ((rd_T26 l0 x5_1).f0) ((rd_T26 l0 x5_1).f1) ((rd_T26 l0 x5_1).f2) ((rd_T26 l0 x5_1).f3) ((rd_T26 l0 x5_1).f4) ((rd_T26 l0 x5_1).f5) ((rd_T26 l0 x5_1).f6) ((rd_T26 l0 x5_1).f7) ((rd_T26 l0 x5_1).f8) ((rd_T26 l1 x5_1).f0) ((rd_T26 l1 x5_1).f1) ((rd_T26 l1 x5_1).f2) ((rd_T26 l1 x5_1).f3) ((rd_T26 l1 x5_1).f4) ((rd_T26 l1 x5_1).f5) ((rd_T26 l1 x5_1).f6) ((rd_T26 l1 x5_1).f7) ((rd_T26 l1 x5_1).f8) true _ A7.out).mono ?_
        rintro e w10 ⟨rfl, hb⟩
        refine ⟨_, rfl, ?_⟩
        have n0_ := Aside0.mk (below_step (by repeat (first | (with_reducible first | exact HB.out | apply lA | apply lN | apply lD) | exact HB.out)) hb)
        clear HB
        have HB := n0_
        clear n0_
        (try clear hb)
        (try clear hb2)
        (try clear hk)
        (try clear hi)
        refine hK.out _ _ ⟨((HB.out.cell (World.block_lt_of_cell? _ _ hw204_0)).trans hw204_0), ((HB.out.cell (World.block_lt_of_cell? _ _ hw204_1)).trans hw204_1), ((HB.out.cell (World.block_lt_of_cell? _ _ hw204_2)).trans hw204_2), ((HB.out.cell (World.block_lt_of_cell? _ _ hw204_3)).trans hw204_3), ((HB.out.cell (World.block_lt_of_cell? _ _ hw204_4)).trans hw204_4), ((HB.out.cell (World.block_lt_of_cell? _ _ hw204_5)).trans hw204_5), ((HB.out.cell (World.block_lt_of_cell? _ _ hw204_6)).trans hw204_6), ((HB.out.cell (World.block_lt_of_cell? _ _ hw204_7)).trans hw204_7), ((HB.out.cell (World.block_lt_of_cell? _ _ hw204_8)).trans hw204_8), ((HB.out.cell (World.block_lt_of_cell? _ _ hw205_0)).trans hw205_0), ((HB.out.cell (World.block_lt_of_cell? _ _ hw205_1)).trans hw205_1), ((HB.out.cell (World.block_lt_of_cell? _ _ hw205_2)).trans hw205_2), ((HB.out.cell (World.block_lt_of_cell? _ _ hw205_3)).trans hw205_3), ((HB.out.cell (World.block_lt_of_cell? _ _ hw205_4)).trans hw205_4), ((HB.out.cell (World.block_lt_of_cell? _ _ hw205_5)).trans hw205_5), ((HB.out.cell (World.block_lt_of_cell? _ _ hw205_6)).trans hw205_6), ((HB.out.cell (World.block_lt_of_cell? _ _ hw205_7)).trans hw205_7), ((HB.out.cell (World.block_lt_of_cell? _ _ hw205_8)).trans hw205_8)⟩ (fun hHeld => ?_)
        clear hK K
        refine norm_ (a' := ?_) ?_ ?_
        rotate_left
        ·
         show Act.put _ (some 25) _ = _
         simp only [Act.put, sT, s0, sS, i64_w, i32_w]
         rfl
        refine pure_ (i := 9) (N := some 26) (v := ?_) (a' := ?_) #[true, true, true, true, true, true, true, true, true, true] rfl rfl (any_of HT_.out (by kernel_rfl)) (fun _ _ _ h => h) (Or.inl ⟨by rfl, ?_⟩) ?_ ?_
        rotate_left
        ·
         intro w'
         go_simp
         with_reducible rfl
        rotate_left
        ·
         simp only [Act.put, sT, s0, sS, i64_w, i32_w]
         rfl
        refine done_ (done_of HT_.out (by kernel_rfl)) ?_
        try go_wp2
        go_roundg k1
        case measure => have := HK1.out; omega
        case rel => exact ⟨(wrap64 (x5_1 + 1)), (by first | rfl | (simp; done) | (simp [*]; done)), H', ⟨by have := HK1.out; omega⟩, ⟨by repeat (first | (with_reducible first | exact HB.out | apply lA | apply lN | apply lD) | exact HB.out)⟩⟩
       ·
        replace c8 := Bool.eq_false_iff.mpr c8
        subst c8
        have H1 : (some false) = some r := by rw [if_neg (show ¬ (false = true) by decide)] at H; exact H
        clear H
        have H := H1
        clear H1
        obtain rfl := Option.some.inj H
        simp only [Option.some.injEq, Prod.mk.injEq] at H
        obtain ⟨rfl⟩ := H
        try go_wp2
        have n0_ := Aside0.mk (below_drew1 HB.out)
        clear HB
        have HB := n0_
        clear n0_
        have p204 : 0 ≤ (x5_1 : Int) := of_decide_eq_true (by with_reducible assumption)
        have q204 : x5_1 < (l0.length : Int) := of_decide_eq_true (by with_reducible assumption)
        obtain ⟨ad204, e204, hx204_0, hx204_1, hx204_2, hx204_3, hx204_4, hx204_5, hx204_6, hx204_7, hx204_8⟩ := at_T26 HR0.out x5_1 p204 q204
        have hw204_8 := hx204_8
        have hw204_7 := hx204_7
        have hw204_6 := hx204_6
        have hw204_5 := hx204_5
        have hw204_4 := hx204_4
        have hw204_3 := hx204_3
        have hw204_2 := hx204_2
        have hw204_1 := hx204_1
        have hw204_0 := hx204_0
        cases e204
        replace hx204_0 := cB HB.out hx204_0
        replace hx204_1 := cB HB.out hx204_1
        replace hx204_2 := cB HB.out hx204_2
        replace hx204_3 := cB HB.out hx204_3
        replace hx204_4 := cB HB.out hx204_4
        replace hx204_5 := cB HB.out hx204_5
        replace hx204_6 := cB HB.out hx204_6
        replace hx204_7 := cB HB.out hx204_7
        replace hx204_8 := cB HB.out hx204_8
        replace p204 := eq_true p204
        replace q204 := eq_true q204
        have p205 : 0 ≤ (x5_1 : Int) := of_decide_eq_true (by with_reducible assumption)
        have q205 : x5_1 < (l1.length : Int) := of_decide_eq_true (by with_reducible assumption)
        obtain ⟨ad205, e205, hx205_0, hx205_1, hx205_2, hx205_3, hx205_4, hx205_5, hx205_6, hx205_7, hx205_8⟩ := at_T26 HR1.out x5_1 p205 q205
        have hw205_8 := hx205_8
        have hw205_7 := hx205_7
        have hw205_6 := hx205_6
        have hw205_5 := hx205_5
        have hw205_4 := hx205_4
        have hw205_3 := hx205_3
        have hw205_2 := hx205_2
        have hw205_1 := hx205_1
        have hw205_0 := hx205_0
        cases e205
        replace hx205_0 := cB HB.out hx205_0
        replace hx205_1 := cB HB.out hx205_1
        replace hx205_2 := cB HB.out hx205_2
        replace hx205_3 := cB HB.out hx205_3
        replace hx205_4 := cB HB.out hx205_4
        replace hx205_5 := cB HB.out hx205_5
        replace hx205_6 := cB HB.out hx205_6
        replace hx205_7 := cB HB.out hx205_7
        replace hx205_8 := cB HB.out hx205_8
        replace p205 := eq_true p205
        replace q205 := eq_true q205
        refine start_ (n := 10) (S := fun w' => w'.cell? (ad204.add ((x5_1).toNat * 9)) = some (.string ((rd_T26 l0 x5_1).f0)) ∧ w'.cell? ⟨(ad204.add ((x5_1).toNat * 9)).block, (ad204.add ((x5_1).toNat * 9)).off + 1, none⟩ = some (.int .i64 ((rd_T26 l0 x5_1).f1)) ∧ w'.cell? ⟨(ad204.add ((x5_1).toNat * 9)).block, (ad204.add ((x5_1).toNat * 9)).off + 2, none⟩ = some (.int .i64 ((rd_T26 l0 x5_1).f2)) ∧ w'.cell? ⟨(ad204.add ((x5_1).toNat * 9)).block, (ad204.add ((x5_1).toNat * 9)).off + 3, none⟩ = some (.int .i64 ((rd_T26 l0 x5_1).f3)) ∧ w'.cell? ⟨(ad204.add ((x5_1).toNat * 9)).block, (ad204.add ((x5_1).toNat * 9)).off + 4, none⟩ = some (.int .i64 ((rd_T26 l0 x5_1).f4)) ∧ w'.cell? ⟨(ad204.add ((x5_1).toNat * 9)).block, (ad204.add ((x5_1).toNat * 9)).off + 5, none⟩ = some (.int .i64 ((rd_T26 l0 x5_1).f5)) ∧ w'.cell? ⟨(ad204.add ((x5_1).toNat * 9)).block, (ad204.add ((x5_1).toNat * 9)).off + 6, none⟩ = some (.int .i64 ((rd_T26 l0 x5_1).f6)) ∧ w'.cell? ⟨(ad204.add ((x5_1).toNat * 9)).block, (ad204.add ((x5_1).toNat * 9)).off + 7, none⟩ = some (.int .i64 ((rd_T26 l0 x5_1).f7)) ∧ w'.cell? ⟨(ad204.add ((x5_1).toNat * 9)).block, (ad204.add ((x5_1).toNat * 9)).off + 8, none⟩ = some (.int .i64 ((rd_T26 l0 x5_1).f8)) ∧ w'.cell? (ad205.add ((x5_1).toNat * 9)) = some (.string ((rd_T26 l1 x5_1).f0)) ∧ w'.cell? ⟨(ad205.add ((x5_1).toNat * 9)).block, (ad205.add ((x5_1).toNat * 9)).off + 1, none⟩ = some (.int .i64 ((rd_T26 l1 x5_1).f1)) ∧ w'.cell? ⟨(ad205.add ((x5_1).toNat * 9)).block, (ad205.add ((x5_1).toNat * 9)).off + 2, none⟩ = some (.int .i64 ((rd_T26 l1 x5_1).f2)) ∧ w'.cell? ⟨(ad205.add ((x5_1).toNat * 9)).block, (ad205.add ((x5_1).toNat * 9)).off + 3, none⟩ = some (.int .i64 ((rd_T26 l1 x5_1).f3)) ∧ w'.cell? ⟨(ad205.add ((x5_1).toNat * 9)).block, (ad205.add ((x5_1).toNat * 9)).off + 4, none⟩ = some (.int .i64 ((rd_T26 l1 x5_1).f4)) ∧ w'.cell? ⟨(ad205.add ((x5_1).toNat * 9)).block, (ad205.add ((x5_1).toNat * 9)).off + 5, none⟩ = some (.int .i64 ((rd_T26 l1 x5_1).f5)) ∧ w'.cell? ⟨(ad205.add ((x5_1).toNat * 9)).block, (ad205.add ((x5_1).toNat * 9)).off + 6, none⟩ = some (.int .i64 ((rd_T26 l1 x5_1).f6)) ∧ w'.cell? ⟨(ad205.add ((x5_1).toNat * 9)).block, (ad205.add ((x5_1).toNat * 9)).off + 7, none⟩ = some (.int .i64 ((rd_T26 l1 x5_1).f7)) ∧ w'.cell? ⟨(ad205.add ((x5_1).toNat * 9)).block, (ad205.add ((x5_1).toNat * 9)).off + 8, none⟩ = some (.int .i64 ((rd_T26 l1 x5_1).f8))) (ds := []) #[false, false, false, false, false, false, false, false, false, false] (by kernel_rfl) rfl rfl ⟨((HB.out.cell (World.block_lt_of_cell? _ _ hw204_0)).trans hw204_0), ((HB.out.cell (World.block_lt_of_cell? _ _ hw204_1)).trans hw204_1), ((HB.out.cell (World.block_lt_of_cell? _ _ hw204_2)).trans hw204_2), ((HB.out.cell (World.block_lt_of_cell? _ _ hw204_3)).trans hw204_3), ((HB.out.cell (World.block_lt_of_cell? _ _ hw204_4)).trans hw204_4), ((HB.out.cell (World.block_lt_of_cell? _ _ hw204_5)).trans hw204_5), ((HB.out.cell (World.block_lt_of_cell? _ _ hw204_6)).trans hw204_6), ((HB.out.cell (World.block_lt_of_cell? _ _ hw204_7)).trans hw204_7), ((HB.out.cell (World.block_lt_of_cell? _ _ hw204_8)).trans hw204_8), ((HB.out.cell (World.block_lt_of_cell? _ _ hw205_0)).trans hw205_0), ((HB.out.cell (World.block_lt_of_cell? _ _ hw205_1)).trans hw205_1), ((HB.out.cell (World.block_lt_of_cell? _ _ hw205_2)).trans hw205_2), ((HB.out.cell (World.block_lt_of_cell? _ _ hw205_3)).trans hw205_3), ((HB.out.cell (World.block_lt_of_cell? _ _ hw205_4)).trans hw205_4), ((HB.out.cell (World.block_lt_of_cell? _ _ hw205_5)).trans hw205_5), ((HB.out.cell (World.block_lt_of_cell? _ _ hw205_6)).trans hw205_6), ((HB.out.cell (World.block_lt_of_cell? _ _ hw205_7)).trans hw205_7), ((HB.out.cell (World.block_lt_of_cell? _ _ hw205_8)).trans hw205_8)⟩ (fun hHeld => ?_); refine with_tabW laws_eqArticleS.tab6 laws_eqArticleS.bits6 (fun HT_ HW_ => ?_)
        generalize wr.drew = w11 at HB hx204_0 hx204_1 hx204_2 hx204_3 hx204_4 hx204_5 hx204_6 hx204_7 hx204_8 hx205_0 hx205_1 hx205_2 hx205_3 hx205_4 hx205_5 hx205_6 hx205_7 hx205_8 hHeld ⊢
        refine pure_ (i := 0) (N := some 17) (v := ?_) (a' := ?_) #[true, false, false, false, false, false, false, false, false, false] rfl rfl (any_of HT_.out (by kernel_rfl)) (fun _ _ _ h => h) (Or.inl ⟨by rfl, ?_⟩) ?_ ?_
        rotate_left
        ·
         intro w'
         go_simp
         with_reducible rfl
        rotate_left
        ·
         simp only [Act.put, sT, s0, sS, i64_w, i32_w]
         rfl
        refine pure_ (i := 1) (N := some 18) (v := ?_) (a' := ?_) #[true, true, false, false, false, false, false, false, false, false] rfl rfl (any_of HT_.out (by kernel_rfl)) (fun _ _ _ h => h) (Or.inl ⟨by rfl, ?_⟩) ?_ ?_
        rotate_left
        ·
         intro w'
         go_simp
         with_reducible rfl
        rotate_left
        ·
         simp only [Act.put, sT, s0, sS, i64_w, i32_w]
         rfl
        refine pure_ (i := 2) (N := some 19) (v := ?_) (a' := ?_) #[true, true, true, false, false, false, false, false, false, false] rfl rfl (any_of HT_.out (by kernel_rfl)) (fun _ _ _ h => h) (Or.inl ⟨by rfl, ?_⟩) ?_ ?_
        rotate_left
        ·
         intro w'
         go_simp
         with_reducible rfl
        rotate_left
        ·
         simp only [Act.put, sT, s0, sS, i64_w, i32_w]
         rfl
        refine pure_ (i := 4) (N := some 21) (v := ?_) (a' := ?_) #[true, true, true, false, true, false, false, false, false, false] rfl rfl (any_of HT_.out (by kernel_rfl)) (fun _ _ _ h => h) (Or.inl ⟨by rfl, ?_⟩) ?_ ?_
        rotate_left
        ·
         intro w'
         go_simp
         with_reducible rfl
        rotate_left
        ·
         simp only [Act.put, sT, s0, sS, i64_w, i32_w]
         rfl
        refine pure_ (i := 5) (N := some 22) (v := ?_) (a' := ?_) #[true, true, true, false, true, true, false, false, false, false] rfl rfl (any_of HT_.out (by kernel_rfl)) (fun _ _ _ h => h) (Or.inl ⟨by rfl, ?_⟩) ?_ ?_
        rotate_left
        ·
         intro w'
         go_simp
         with_reducible rfl
        rotate_left
        ·
         simp only [Act.put, sT, s0, sS, i64_w, i32_w]
         rfl
        refine pure_ (i := 6) (N := some 23) (v := ?_) (a' := ?_) #[true, true, true, false, true, true, true, false, false, false] rfl rfl (any_of HT_.out (by kernel_rfl)) (fun _ _ _ h => h) (Or.inl ⟨by rfl, ?_⟩) ?_ ?_
        rotate_left
        ·
         intro w'
         go_simp
         with_reducible rfl
        rotate_left
        ·
         simp only [Act.put, sT, s0, sS, i64_w, i32_w]
         rfl
        refine take_ (i := 3) (N := some 20) (v := ?_) (a' := ?_) #[true, true, true, true, true, true, true, false, false, false] rfl rfl (take_ofW HT_.out HW_.out (by kernel_rfl)) (fun _ _ _ h => h) (Or.inl ⟨by rfl, ?_⟩) hHeld ?_ ?_
        rotate_left
        ·
         rintro w' ⟨s0, s1, s2, s3, s4, s5, s6, s7, s8, s9, s10, s11, s12, s13, s14, s15, s16, s17⟩
         go_simp
         with_reducible rfl
        rotate_left
        ·
         simp only [Act.put, sT, s0, sS, i64_w, i32_w]
         rfl
        refine take_ (i := 7) (N := some 24) (v := ?_) (a' := ?_) #[true, true, true, true, true, true, true, true, false, false] rfl rfl (take_ofW HT_.out HW_.out (by kernel_rfl)) (fun _ _ _ h => h) (Or.inl ⟨by rfl, ?_⟩) hHeld ?_ ?_
        rotate_left
        ·
         rintro w' ⟨s0, s1, s2, s3, s4, s5, s6, s7, s8, s9, s10, s11, s12, s13, s14, s15, s16, s17⟩
         go_simp
         with_reducible rfl
        rotate_left
        ·
         simp only [Act.put, sT, s0, sS, i64_w, i32_w]
         rfl
        refine one_ (i := 8) (N := some 25) #[true, true, true, true, true, true, true, true, true, false] rfl rfl (one_of HT_.out (by kernel_rfl)) (by decide) (fun K hK => ?_)
        refine goes_ Try.func46 (by kernel_rfl) rfl #[.agg #[.string ((rd_T26 l0 x5_1).f0), .int .i64 ((rd_T26 l0 x5_1).f1), .int .i64 ((rd_T26 l0 x5_1).f2), .int .i64 ((rd_T26 l0 x5_1).f3), .int .i64 ((rd_T26 l0 x5_1).f4), .int .i64 ((rd_T26 l0 x5_1).f5), .int .i64 ((rd_T26 l0 x5_1).f6), .int .i64 ((rd_T26 l0 x5_1).f7), .int .i64 ((rd_T26 l0 x5_1).f8)], .agg #[.string ((rd_T26 l1 x5_1).f0), .int .i64 ((rd_T26 l1 x5_1).f1), .int .i64 ((rd_T26 l1 x5_1).f2), .int .i64 ((rd_T26 l1 x5_1).f3), .int .i64 ((rd_T26 l1 x5_1).f4), .int .i64 ((rd_T26 l1 x5_1).f5), .int .i64 ((rd_T26 l1 x5_1).f6), .int .i64 ((rd_T26 l1 x5_1).f7), .int .i64 ((rd_T26 l1 x5_1).f8)]] (by rfl) rfl rfl (by (try simp only [List.map_toArray, List.map_cons, List.map_nil]); first | done | rfl | (go_simp; done) | simp) ?_
        with_reducible refine (laws_eqArticle.calls ((rd_T26 l0 x5_1).f0) ((rd_T26 l0 x5_1).f1) ((rd_T26 l0 x5_1).f2) ((rd_T26 l0 x5_1).f3) ((rd_T26 l0 x5_1).f4) ((rd_T26 l0 x5_1).f5) ((rd_T26 l0 x5_1).f6) ((rd_T26 l0 x5_1).f7) ((rd_T26 l0 x5_1).f8) ((rd_T26 l1 x5_1).f0) ((rd_T26 l1 x5_1).f1) ((rd_T26 l1 x5_1).f2) ((rd_T26 l1 x5_1).f3) ((rd_T26 l1 x5_1).f4) ((rd_T26 l1 x5_1).f5) ((rd_T26 l1 x5_1).f6) ((rd_T26 l1 x5_1).f7) ((rd_T26 l1 x5_1).f8) false _ A7.out).mono ?_
        rintro e w12 ⟨rfl, hb⟩
        refine ⟨_, rfl, ?_⟩
        have n0_ := Aside0.mk (below_step (by repeat (first | (with_reducible first | exact HB.out | apply lA | apply lN | apply lD) | exact HB.out)) hb)
        clear HB
        have HB := n0_
        clear n0_
        (try clear hb)
        (try clear hb2)
        (try clear hk)
        (try clear hi)
        refine hK.out _ _ ⟨((HB.out.cell (World.block_lt_of_cell? _ _ hw204_0)).trans hw204_0), ((HB.out.cell (World.block_lt_of_cell? _ _ hw204_1)).trans hw204_1), ((HB.out.cell (World.block_lt_of_cell? _ _ hw204_2)).trans hw204_2), ((HB.out.cell (World.block_lt_of_cell? _ _ hw204_3)).trans hw204_3), ((HB.out.cell (World.block_lt_of_cell? _ _ hw204_4)).trans hw204_4), ((HB.out.cell (World.block_lt_of_cell? _ _ hw204_5)).trans hw204_5), ((HB.out.cell (World.block_lt_of_cell? _ _ hw204_6)).trans hw204_6), ((HB.out.cell (World.block_lt_of_cell? _ _ hw204_7)).trans hw204_7), ((HB.out.cell (World.block_lt_of_cell? _ _ hw204_8)).trans hw204_8), ((HB.out.cell (World.block_lt_of_cell? _ _ hw205_0)).trans hw205_0), ((HB.out.cell (World.block_lt_of_cell? _ _ hw205_1)).trans hw205_1), ((HB.out.cell (World.block_lt_of_cell? _ _ hw205_2)).trans hw205_2), ((HB.out.cell (World.block_lt_of_cell? _ _ hw205_3)).trans hw205_3), ((HB.out.cell (World.block_lt_of_cell? _ _ hw205_4)).trans hw205_4), ((HB.out.cell (World.block_lt_of_cell? _ _ hw205_5)).trans hw205_5), ((HB.out.cell (World.block_lt_of_cell? _ _ hw205_6)).trans hw205_6), ((HB.out.cell (World.block_lt_of_cell? _ _ hw205_7)).trans hw205_7), ((HB.out.cell (World.block_lt_of_cell? _ _ hw205_8)).trans hw205_8)⟩ (fun hHeld => ?_)
        clear hK K
        refine norm_ (a' := ?_) ?_ ?_
        rotate_left
        ·
         show Act.put _ (some 25) _ = _
         simp only [Act.put, sT, s0, sS, i64_w, i32_w]
         rfl
        refine pure_ (i := 9) (N := some 26) (v := ?_) (a' := ?_) #[true, true, true, true, true, true, true, true, true, true] rfl rfl (any_of HT_.out (by kernel_rfl)) (fun _ _ _ h => h) (Or.inl ⟨by rfl, ?_⟩) ?_ ?_
        rotate_left
        ·
         intro w'
         go_simp
         with_reducible rfl
        rotate_left
        ·
         simp only [Act.put, sT, s0, sS, i64_w, i32_w]
         rfl
        refine done_ (done_of HT_.out (by kernel_rfl)) ?_
        try go_wp2
        go_ret
        exact ⟨by first | rfl | (simp [errW_none, errW_some] <;> rfl) | (simp [*, errW_none, errW_some] <;> rfl), by repeat (first | (with_reducible first | exact HB.out | apply lA | apply lN | apply lD) | exact HB.out)⟩
      ·
       rw [if_neg c6] at H
       exact absurd H (by simp)
     ·
      rw [if_neg c5] at H
      exact absurd H (by simp)
    ·
     rw [if_neg c4] at H
     have c4b0 : decide (x5_1 < (l0.length : Int)) = false := decide_eq_false c4
     clear c4
     obtain rfl := Option.some.inj H
     simp only [Option.some.injEq, Prod.mk.injEq] at H
     obtain ⟨rfl⟩ := H
     go_wp2
     go_ret
     exact ⟨by first | rfl | (simp [errW_none, errW_some] <;> rfl) | (simp [*, errW_none, errW_some] <;> rfl), by repeat (first | (with_reducible first | exact HB.out | apply lA | apply lN | apply lD) | exact HB.out)⟩
 ·
  rw [if_neg c3] at H
  have c3b0 : ((l0.length : Int) == (l1.length : Int)) = false := beq_eq_false_iff_ne.mpr c3
  have c3b1 : ((l0.length : Int) != (l1.length : Int)) = true := bne_iff_ne.mpr c3
  have c3b2 : (l0.length == l1.length) = false := by first | simpa using c3 | (simp at c3 ⊢; omega)
  obtain rfl := Option.some.inj H
  simp only [Option.some.injEq, Prod.mk.injEq] at H
  obtain ⟨rfl⟩ := H
  go_enter Try.func81, Try.ntmps81
  go_wp2
  go_ret
  exact ⟨by first | rfl | (simp [errW_none, errW_some] <;> rfl) | (simp [*, errW_none, errW_some] <;> rfl), by repeat (first | (with_reducible first | exact HB.out | apply lA | apply lN | apply lD) | exact HB.out)⟩


end Go.Proofs.Ytmepklccbogibaa.QFnExactMixedGroups
