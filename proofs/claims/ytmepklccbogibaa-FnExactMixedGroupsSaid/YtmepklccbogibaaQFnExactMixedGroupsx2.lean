-- Written by a program of this project's session, after the kit's print (a turned copy of its programs). Lean checks it.
import Derived.Test.YtmepklccbogibaaQFnExactMixedGroupsx0
import Derived.Test.YtmepklccbogibaaQFnExactMixedGroupsx1
namespace Go.Proofs.Ytmepklccbogibaa.QFnExactMixedGroups
open Go.RowKit Go.Proofs.YtmepklccbogibaaW.PrintWords Go.Proofs.YtmepklccbogibaaW.PrintLast Go.Proofs.YtmepklccbogibaaW.PrintMore
attribute [local go_sem] max2_int min2_int max_two min_two max_three min_three max_four min_four   -- for this text's walks alone
set_option linter.unusedVariables false
set_option linter.unusedSimpArgs false

/-! ### spec_AreArticles: function 44 -/
def spec_AreArticles.l0 : Nat → List (S26) → Int → Option (Bool)
 | 0, _, _ => none
 | k + 1, x0, x3 => if x3 < (x0.length : Int) then (if 0 ≤ x3 then ((spec_IsArticle.f k ((rd_T26 x0 x3).f0) ((rd_T26 x0 x3).f1) ((rd_T26 x0 x3).f2) ((rd_T26 x0 x3).f3) ((rd_T26 x0 x3).f4) ((rd_T26 x0 x3).f5) ((rd_T26 x0 x3).f6) ((rd_T26 x0 x3).f7) ((rd_T26 x0 x3).f8)).bind fun t116 => (if t116 = true then (if x3 > 0 then (if 0 ≤ (wrap64 (x3 - 1)) then (if (wrap64 (x3 - 1)) < (x0.length : Int) then (if ((Op.bytesLess (((rd_T26 x0 (wrap64 (x3 - 1))).f0).toList) (((rd_T26 x0 x3).f0).toList)) = true) then (spec_AreArticles.l0 k x0 (wrap64 (x3 + 1))) else (some false)) else (none)) else (none)) else (spec_AreArticles.l0 k x0 (wrap64 (x3 + 1)))) else (some false))) else (none)) else (some (decide ((x0.length : Int) ≤ 12)))
def spec_AreArticles.f (k : Nat) (l0 : List (S26)) : Option (Bool) := spec_AreArticles.l0 k l0 0
theorem spec_AreArticles.mono_l : ∀ k, (∀ y0 y1, LeO (spec_AreArticles.l0 k y0 y1) (spec_AreArticles.l0 (k + 1) y0 y1))
 | 0 => fun _ _ r h => by simp [spec_AreArticles.l0] at h
 | k + 1 => by
  have ih0 := spec_AreArticles.mono_l k
  ·
   intro y0 y1
   unfold spec_AreArticles.l0
   repeat' first
   | (with_reducible exact ih0 _ _)
   | (with_reducible exact spec_IsArticle.mono _ _ _ _ _ _ _ _ _ _)
   | (with_reducible exact LeO.refl _)
   | (with_reducible exact LeO.none _)
   | (with_reducible refine LeO.ite ?_ ?_)
   | (with_reducible refine LeO.bind ?_ (fun _ => ?_))
   | exact ih0 _ _
   | exact spec_IsArticle.mono _ _ _ _ _ _ _ _ _ _
   | exact LeO.none _
   | refine LeO.ite ?_ ?_
   | refine LeO.bind ?_ (fun _ => ?_)
theorem spec_AreArticles.mono : ∀ a0 k, LeO (spec_AreArticles.f k a0) (spec_AreArticles.f (k + 1) a0) := by
 intro a0 k
 have ih0 := spec_AreArticles.mono_l k
 unfold spec_AreArticles.f
 repeat' first
   | (with_reducible exact ih0 _ _)
   | (with_reducible exact spec_IsArticle.mono _ _ _ _ _ _ _ _ _ _)
   | (with_reducible exact LeO.refl _)
   | (with_reducible exact LeO.none _)
   | (with_reducible refine LeO.ite ?_ ?_)
   | (with_reducible refine LeO.bind ?_ (fun _ => ?_))
   | exact ih0 _ _
   | exact spec_IsArticle.mono _ _ _ _ _ _ _ _ _ _
   | exact LeO.none _
   | refine LeO.ite ?_ ?_
   | refine LeO.bind ?_ (fun _ => ?_)
def spec_AreArticles.T4 : Bool × List (List Nat × List Nat) := (true, [([], []), ([], []), ([0, 1], [0, 1]), ([2], [2]), ([3], [3]), ([4], [4]), ([5, 4], [5]), ([6], [6]), ([7, 6], [6, 7]), ([8, 6, 6], [6, 8]), ([9], [9]), ([9], [9]), ([11, 9], [9, 11]), ([10, 12, 9], [9, 10, 12]), ([13, 9], [9, 13]), ([14, 9], [9, 14]), ([9], [9]), ([9], [9]), ([16, 17, 9], [9, 16, 17]), ([18, 9], [9, 18]), ([19, 9], [9, 19]), ([15, 20, 9], [9, 15, 20]), ([9, 21, 6], [6, 9, 21]), ([6, 22], [6, 22])])
def spec_AreArticles.B4 : List Nat := [0, 0, 3, 7, 15, 31, 63, 127, 255, 511, 1023, 1023, 3071, 8191, 16383, 32767, 1023, 1023, 197631, 459775, 984063, 2097151, 4194303, 8388607]
theorem spec_AreArticles.tab4 : rtab .any (opsOf Try.f44 4) = spec_AreArticles.T4 := by kernel_rfl
theorem spec_AreArticles.bits4 : waitsOk spec_AreArticles.T4.2 spec_AreArticles.B4 = true := by kernel_rfl
set_option maxHeartbeats 40000000 in
set_option maxRecDepth 100000 in
theorem spec_AreArticles.calls (k : Nat) (A0 : Option Addr) (c0 : Nat) (l0 : List (S26)) (r : Bool) (w : World) (hr0 : Kd.C k26 w A0 l0.length l0) (hc0 : l0.length ≤ c0) (h : spec_AreArticles.f k l0 = some r) :
  Calls Try.prog 44 #[.slice A0 l0.length c0] w fun e w' => e = .returned (.bool r) ∧ Below w.heap.size w w' := by
 have hu26 := Try.underlying26
 have HR0 := Aside0.mk hr0
 have HC0 := Aside0.mk hc0
 clear hr0 hc0
 have HB := Aside0.mk (Below.refl w.heap.size w)
 have H : (spec_AreArticles.l0 k l0 0) = some r := h
 clear h
 have H' := Aside0.mk H
 clear H
 go_enter Try.func44, Try.ntmps44
 go_wp2
 go_loopg [3] k (fun kq v3 w' => ∃ (x3_1 : Int), v3 = .int .i64 x3_1 ∧ Aside0 (spec_AreArticles.l0 kq l0 x3_1 = some r) ∧ Aside0 (kq ≤ k) ∧ Aside0 (Below w.heap.size w w'))
 case atStart => exact ⟨(0), (by first | rfl | (simp; done) | (simp [*]; done)), H', ⟨Nat.le_refl _⟩, ⟨by repeat (first | (with_reducible first | exact HB.out | apply lA | apply lN | apply lD) | exact HB.out)⟩⟩
 case round =>
  clear H'
  obtain ⟨x3_1, rfl, HA, HK1, HB⟩ := hrel
  cases gk with
  | zero => exact absurd HA.out (by simp [spec_AreArticles.l0])
  | succ k1 =>
   have H := HA.out
   clear HA
   simp only [spec_AreArticles.l0] at H
   by_cases c2 : x3_1 < (l0.length : Int)
   ·
    rw [if_pos c2] at H
    have c2b0 : decide (x3_1 < (l0.length : Int)) = true := decide_eq_true c2
    clear c2
    by_cases c3 : 0 ≤ x3_1
    ·
     rw [if_pos c3] at H
     have c3b0 : decide (0 ≤ x3_1) = true := decide_eq_true c3
     clear c3
     replace H := Option.bind_eq_some_iff.mp H
     obtain ⟨t116, A40, H⟩ := H
     replace H : (if t116 = true then (if x3_1 > 0 then (if 0 ≤ (wrap64 (x3_1 - 1)) then (if (wrap64 (x3_1 - 1)) < (l0.length : Int) then (if ((Op.bytesLess (((rd_T26 l0 (wrap64 (x3_1 - 1))).f0).toList) (((rd_T26 l0 x3_1).f0).toList)) = true) then (spec_AreArticles.l0 k1 l0 (wrap64 (x3_1 + 1))) else (some false)) else (none)) else (none)) else (spec_AreArticles.l0 k1 l0 (wrap64 (x3_1 + 1)))) else (some false)) = some r := H
     have A4 := Aside0.mk A40
     clear A40
     by_cases c5 : t116 = true
     ·
      subst c5
      have H1 : (if x3_1 > 0 then (if 0 ≤ (wrap64 (x3_1 - 1)) then (if (wrap64 (x3_1 - 1)) < (l0.length : Int) then (if ((Op.bytesLess (((rd_T26 l0 (wrap64 (x3_1 - 1))).f0).toList) (((rd_T26 l0 x3_1).f0).toList)) = true) then (spec_AreArticles.l0 k1 l0 (wrap64 (x3_1 + 1))) else (some false)) else (none)) else (none)) else (spec_AreArticles.l0 k1 l0 (wrap64 (x3_1 + 1)))) = some r := by rw [if_pos rfl] at H; exact H
      clear H
      have H := H1
      clear H1
      by_cases c6 : x3_1 > 0
      ·
       rw [if_pos c6] at H
       have c6b0 : decide (0 < x3_1) = true := decide_eq_true c6
       clear c6
       obtain ⟨ji7, hji7⟩ : ∃ j_ : Int, (wrap64 (x3_1 - 1)) = j_ := ⟨_, rfl⟩
       replace H : (if 0 ≤ (ji7) then (if (ji7) < (l0.length : Int) then (if ((Op.bytesLess (((rd_T26 l0 (ji7)).f0).toList) (((rd_T26 l0 x3_1).f0).toList)) = true) then (spec_AreArticles.l0 k1 l0 (wrap64 (x3_1 + 1))) else (some false)) else (none)) else (none)) = some r := by first | (rw [hji7] at H; exact H) | (simp only [hji7] at H ⊢; exact H)
       (try rw [hji7] at A4)
       have hji7w : (IntKind.i64.wrap (x3_1 - 1)) = ji7 := (i64_w _).trans hji7
       by_cases c8 : 0 ≤ (ji7)
       ·
        rw [if_pos c8] at H
        have c8b0 : decide (0 ≤ (ji7)) = true := decide_eq_true c8
        clear c8
        by_cases c9 : (ji7) < (l0.length : Int)
        ·
         rw [if_pos c9] at H
         have c9b0 : decide ((ji7) < (l0.length : Int)) = true := decide_eq_true c9
         clear c9
         by_cases c10 : ((Op.bytesLess (((rd_T26 l0 (ji7)).f0).toList) (((rd_T26 l0 x3_1).f0).toList)) = true)
         ·
          rw [if_pos c10] at H
          have c10b0 : (Op.bytesLess (((rd_T26 l0 (ji7)).f0).toList) (((rd_T26 l0 x3_1).f0).toList)) = true := c10
          clear c10
          have H' := Aside0.mk H
          clear H
          try go_wp2
          have n0_ := Aside0.mk (below_drew1 HB.out)
          clear HB
          have HB := n0_
          clear n0_
          have p115 : 0 ≤ (x3_1 : Int) := of_decide_eq_true (by with_reducible assumption)
          have q115 : x3_1 < (l0.length : Int) := of_decide_eq_true (by with_reducible assumption)
          obtain ⟨ad115, e115, hx115_0, hx115_1, hx115_2, hx115_3, hx115_4, hx115_5, hx115_6, hx115_7, hx115_8⟩ := at_T26 HR0.out x3_1 p115 q115
          have hw115_8 := hx115_8
          have hw115_7 := hx115_7
          have hw115_6 := hx115_6
          have hw115_5 := hx115_5
          have hw115_4 := hx115_4
          have hw115_3 := hx115_3
          have hw115_2 := hx115_2
          have hw115_1 := hx115_1
          have hw115_0 := hx115_0
          cases e115
          replace hx115_0 := cB HB.out hx115_0
          replace hx115_1 := cB HB.out hx115_1
          replace hx115_2 := cB HB.out hx115_2
          replace hx115_3 := cB HB.out hx115_3
          replace hx115_4 := cB HB.out hx115_4
          replace hx115_5 := cB HB.out hx115_5
          replace hx115_6 := cB HB.out hx115_6
          replace hx115_7 := cB HB.out hx115_7
          replace hx115_8 := cB HB.out hx115_8
          replace p115 := eq_true p115
          replace q115 := eq_true q115
          have p117 : 0 ≤ ((ji7) : Int) := of_decide_eq_true (by with_reducible assumption)
          have q117 : (ji7) < (l0.length : Int) := of_decide_eq_true (by with_reducible assumption)
          obtain ⟨ad117, e117, hx117_0, hx117_1, hx117_2, hx117_3, hx117_4, hx117_5, hx117_6, hx117_7, hx117_8⟩ := at_T26 HR0.out (ji7) p117 q117
          have hw117_8 := hx117_8
          have hw117_7 := hx117_7
          have hw117_6 := hx117_6
          have hw117_5 := hx117_5
          have hw117_4 := hx117_4
          have hw117_3 := hx117_3
          have hw117_2 := hx117_2
          have hw117_1 := hx117_1
          have hw117_0 := hx117_0
          obtain rfl : ad115 = ad117 := (by injection e117)
          replace hx117_0 := cB HB.out hx117_0
          replace hx117_1 := cB HB.out hx117_1
          replace hx117_2 := cB HB.out hx117_2
          replace hx117_3 := cB HB.out hx117_3
          replace hx117_4 := cB HB.out hx117_4
          replace hx117_5 := cB HB.out hx117_5
          replace hx117_6 := cB HB.out hx117_6
          replace hx117_7 := cB HB.out hx117_7
          replace hx117_8 := cB HB.out hx117_8
          replace p117 := eq_true p117
          replace q117 := eq_true q117
          have p118 : 0 ≤ (x3_1 : Int) := of_decide_eq_true (by with_reducible assumption)
          have q118 : x3_1 < (l0.length : Int) := of_decide_eq_true (by with_reducible assumption)
          obtain ⟨ad118, e118, hx118_0, hx118_1, hx118_2, hx118_3, hx118_4, hx118_5, hx118_6, hx118_7, hx118_8⟩ := at_T26 HR0.out x3_1 p118 q118
          have hw118_8 := hx118_8
          have hw118_7 := hx118_7
          have hw118_6 := hx118_6
          have hw118_5 := hx118_5
          have hw118_4 := hx118_4
          have hw118_3 := hx118_3
          have hw118_2 := hx118_2
          have hw118_1 := hx118_1
          have hw118_0 := hx118_0
          obtain rfl : ad115 = ad118 := (by injection e118)
          replace hx118_0 := cB HB.out hx118_0
          replace hx118_1 := cB HB.out hx118_1
          replace hx118_2 := cB HB.out hx118_2
          replace hx118_3 := cB HB.out hx118_3
          replace hx118_4 := cB HB.out hx118_4
          replace hx118_5 := cB HB.out hx118_5
          replace hx118_6 := cB HB.out hx118_6
          replace hx118_7 := cB HB.out hx118_7
          replace hx118_8 := cB HB.out hx118_8
          replace p118 := eq_true p118
          replace q118 := eq_true q118
          refine start_ (n := 24) (S := fun w' => w'.cell? (ad115.add ((x3_1).toNat * 9)) = some (.string ((rd_T26 l0 x3_1).f0)) ∧ w'.cell? ⟨(ad115.add ((x3_1).toNat * 9)).block, (ad115.add ((x3_1).toNat * 9)).off + 1, none⟩ = some (.int .i64 ((rd_T26 l0 x3_1).f1)) ∧ w'.cell? ⟨(ad115.add ((x3_1).toNat * 9)).block, (ad115.add ((x3_1).toNat * 9)).off + 2, none⟩ = some (.int .i64 ((rd_T26 l0 x3_1).f2)) ∧ w'.cell? ⟨(ad115.add ((x3_1).toNat * 9)).block, (ad115.add ((x3_1).toNat * 9)).off + 3, none⟩ = some (.int .i64 ((rd_T26 l0 x3_1).f3)) ∧ w'.cell? ⟨(ad115.add ((x3_1).toNat * 9)).block, (ad115.add ((x3_1).toNat * 9)).off + 4, none⟩ = some (.int .i64 ((rd_T26 l0 x3_1).f4)) ∧ w'.cell? ⟨(ad115.add ((x3_1).toNat * 9)).block, (ad115.add ((x3_1).toNat * 9)).off + 5, none⟩ = some (.int .i64 ((rd_T26 l0 x3_1).f5)) ∧ w'.cell? ⟨(ad115.add ((x3_1).toNat * 9)).block, (ad115.add ((x3_1).toNat * 9)).off + 6, none⟩ = some (.int .i64 ((rd_T26 l0 x3_1).f6)) ∧ w'.cell? ⟨(ad115.add ((x3_1).toNat * 9)).block, (ad115.add ((x3_1).toNat * 9)).off + 7, none⟩ = some (.int .i64 ((rd_T26 l0 x3_1).f7)) ∧ w'.cell? ⟨(ad115.add ((x3_1).toNat * 9)).block, (ad115.add ((x3_1).toNat * 9)).off + 8, none⟩ = some (.int .i64 ((rd_T26 l0 x3_1).f8)) ∧ w'.cell? (ad115.add (((ji7)).toNat * 9)) = some (.string ((rd_T26 l0 (ji7)).f0)) ∧ w'.cell? ⟨(ad115.add (((ji7)).toNat * 9)).block, (ad115.add (((ji7)).toNat * 9)).off + 1, none⟩ = some (.int .i64 ((rd_T26 l0 (ji7)).f1)) ∧ w'.cell? ⟨(ad115.add (((ji7)).toNat * 9)).block, (ad115.add (((ji7)).toNat * 9)).off + 2, none⟩ = some (.int .i64 ((rd_T26 l0 (ji7)).f2)) ∧ w'.cell? ⟨(ad115.add (((ji7)).toNat * 9)).block, (ad115.add (((ji7)).toNat * 9)).off + 3, none⟩ = some (.int .i64 ((rd_T26 l0 (ji7)).f3)) ∧ w'.cell? ⟨(ad115.add (((ji7)).toNat * 9)).block, (ad115.add (((ji7)).toNat * 9)).off + 4, none⟩ = some (.int .i64 ((rd_T26 l0 (ji7)).f4)) ∧ w'.cell? ⟨(ad115.add (((ji7)).toNat * 9)).block, (ad115.add (((ji7)).toNat * 9)).off + 5, none⟩ = some (.int .i64 ((rd_T26 l0 (ji7)).f5)) ∧ w'.cell? ⟨(ad115.add (((ji7)).toNat * 9)).block, (ad115.add (((ji7)).toNat * 9)).off + 6, none⟩ = some (.int .i64 ((rd_T26 l0 (ji7)).f6)) ∧ w'.cell? ⟨(ad115.add (((ji7)).toNat * 9)).block, (ad115.add (((ji7)).toNat * 9)).off + 7, none⟩ = some (.int .i64 ((rd_T26 l0 (ji7)).f7)) ∧ w'.cell? ⟨(ad115.add (((ji7)).toNat * 9)).block, (ad115.add (((ji7)).toNat * 9)).off + 8, none⟩ = some (.int .i64 ((rd_T26 l0 (ji7)).f8)) ∧ w'.cell? (ad115.add ((x3_1).toNat * 9)) = some (.string ((rd_T26 l0 x3_1).f0)) ∧ w'.cell? ⟨(ad115.add ((x3_1).toNat * 9)).block, (ad115.add ((x3_1).toNat * 9)).off + 1, none⟩ = some (.int .i64 ((rd_T26 l0 x3_1).f1)) ∧ w'.cell? ⟨(ad115.add ((x3_1).toNat * 9)).block, (ad115.add ((x3_1).toNat * 9)).off + 2, none⟩ = some (.int .i64 ((rd_T26 l0 x3_1).f2)) ∧ w'.cell? ⟨(ad115.add ((x3_1).toNat * 9)).block, (ad115.add ((x3_1).toNat * 9)).off + 3, none⟩ = some (.int .i64 ((rd_T26 l0 x3_1).f3)) ∧ w'.cell? ⟨(ad115.add ((x3_1).toNat * 9)).block, (ad115.add ((x3_1).toNat * 9)).off + 4, none⟩ = some (.int .i64 ((rd_T26 l0 x3_1).f4)) ∧ w'.cell? ⟨(ad115.add ((x3_1).toNat * 9)).block, (ad115.add ((x3_1).toNat * 9)).off + 5, none⟩ = some (.int .i64 ((rd_T26 l0 x3_1).f5)) ∧ w'.cell? ⟨(ad115.add ((x3_1).toNat * 9)).block, (ad115.add ((x3_1).toNat * 9)).off + 6, none⟩ = some (.int .i64 ((rd_T26 l0 x3_1).f6)) ∧ w'.cell? ⟨(ad115.add ((x3_1).toNat * 9)).block, (ad115.add ((x3_1).toNat * 9)).off + 7, none⟩ = some (.int .i64 ((rd_T26 l0 x3_1).f7)) ∧ w'.cell? ⟨(ad115.add ((x3_1).toNat * 9)).block, (ad115.add ((x3_1).toNat * 9)).off + 8, none⟩ = some (.int .i64 ((rd_T26 l0 x3_1).f8))) (ds := []) #[false, false, false, false, false, false, false, false, false, false, false, false, false, false, false, false, false, false, false, false, false, false, false, false] (by kernel_rfl) rfl rfl ⟨((HB.out.cell (World.block_lt_of_cell? _ _ hw115_0)).trans hw115_0), ((HB.out.cell (World.block_lt_of_cell? _ _ hw115_1)).trans hw115_1), ((HB.out.cell (World.block_lt_of_cell? _ _ hw115_2)).trans hw115_2), ((HB.out.cell (World.block_lt_of_cell? _ _ hw115_3)).trans hw115_3), ((HB.out.cell (World.block_lt_of_cell? _ _ hw115_4)).trans hw115_4), ((HB.out.cell (World.block_lt_of_cell? _ _ hw115_5)).trans hw115_5), ((HB.out.cell (World.block_lt_of_cell? _ _ hw115_6)).trans hw115_6), ((HB.out.cell (World.block_lt_of_cell? _ _ hw115_7)).trans hw115_7), ((HB.out.cell (World.block_lt_of_cell? _ _ hw115_8)).trans hw115_8), ((HB.out.cell (World.block_lt_of_cell? _ _ hw117_0)).trans hw117_0), ((HB.out.cell (World.block_lt_of_cell? _ _ hw117_1)).trans hw117_1), ((HB.out.cell (World.block_lt_of_cell? _ _ hw117_2)).trans hw117_2), ((HB.out.cell (World.block_lt_of_cell? _ _ hw117_3)).trans hw117_3), ((HB.out.cell (World.block_lt_of_cell? _ _ hw117_4)).trans hw117_4), ((HB.out.cell (World.block_lt_of_cell? _ _ hw117_5)).trans hw117_5), ((HB.out.cell (World.block_lt_of_cell? _ _ hw117_6)).trans hw117_6), ((HB.out.cell (World.block_lt_of_cell? _ _ hw117_7)).trans hw117_7), ((HB.out.cell (World.block_lt_of_cell? _ _ hw117_8)).trans hw117_8), ((HB.out.cell (World.block_lt_of_cell? _ _ hw118_0)).trans hw118_0), ((HB.out.cell (World.block_lt_of_cell? _ _ hw118_1)).trans hw118_1), ((HB.out.cell (World.block_lt_of_cell? _ _ hw118_2)).trans hw118_2), ((HB.out.cell (World.block_lt_of_cell? _ _ hw118_3)).trans hw118_3), ((HB.out.cell (World.block_lt_of_cell? _ _ hw118_4)).trans hw118_4), ((HB.out.cell (World.block_lt_of_cell? _ _ hw118_5)).trans hw118_5), ((HB.out.cell (World.block_lt_of_cell? _ _ hw118_6)).trans hw118_6), ((HB.out.cell (World.block_lt_of_cell? _ _ hw118_7)).trans hw118_7), ((HB.out.cell (World.block_lt_of_cell? _ _ hw118_8)).trans hw118_8)⟩ (fun hHeld => ?_); refine with_tabW spec_AreArticles.tab4 spec_AreArticles.bits4 (fun HT_ HW_ => ?_)
          generalize wr.drew = w11 at HB hx115_0 hx115_1 hx115_2 hx115_3 hx115_4 hx115_5 hx115_6 hx115_7 hx115_8 hx117_0 hx117_1 hx117_2 hx117_3 hx117_4 hx117_5 hx117_6 hx117_7 hx117_8 hx118_0 hx118_1 hx118_2 hx118_3 hx118_4 hx118_5 hx118_6 hx118_7 hx118_8 hHeld ⊢
          refine pure_ (i := 0) (N := some 10) (v := ?_) (a' := ?_) #[true, false, false, false, false, false, false, false, false, false, false, false, false, false, false, false, false, false, false, false, false, false, false, false] rfl rfl (any_of HT_.out (by kernel_rfl)) (fun _ _ _ h => h) (Or.inl ⟨by rfl, ?_⟩) ?_ ?_
          rotate_left
          ·
           intro w'
           go_simp
           with_reducible rfl
          rotate_left
          ·
           simp only [Act.put, sT, s0, sS, i64_w, i32_w]
           rfl
          refine pure_ (i := 1) (N := some 11) (v := ?_) (a' := ?_) #[true, true, false, false, false, false, false, false, false, false, false, false, false, false, false, false, false, false, false, false, false, false, false, false] rfl rfl (any_of HT_.out (by kernel_rfl)) (fun _ _ _ h => h) (Or.inl ⟨by rfl, ?_⟩) ?_ ?_
          rotate_left
          ·
           intro w'
           go_simp
           with_reducible rfl
          rotate_left
          ·
           simp only [Act.put, sT, s0, sS, i64_w, i32_w]
           rfl
          refine pure_ (i := 2) (N := some 12) (v := ?_) (a' := ?_) #[true, true, true, false, false, false, false, false, false, false, false, false, false, false, false, false, false, false, false, false, false, false, false, false] rfl rfl (any_of HT_.out (by kernel_rfl)) (fun _ _ _ h => h) (Or.inl ⟨by rfl, ?_⟩) ?_ ?_
          rotate_left
          ·
           intro w'
           go_simp
           with_reducible rfl
          rotate_left
          ·
           simp only [Act.put, sT, s0, sS, i64_w, i32_w]
           rfl
          refine take_ (i := 3) (N := some 13) (v := ?_) (a' := ?_) #[true, true, true, true, false, false, false, false, false, false, false, false, false, false, false, false, false, false, false, false, false, false, false, false] rfl rfl (take_ofW HT_.out HW_.out (by kernel_rfl)) (fun _ _ _ h => h) (Or.inl ⟨by rfl, ?_⟩) hHeld ?_ ?_
          rotate_left
          ·
           rintro w' ⟨s0, s1, s2, s3, s4, s5, s6, s7, s8, s9, s10, s11, s12, s13, s14, s15, s16, s17, s18, s19, s20, s21, s22, s23, s24, s25, s26⟩
           go_simp
           with_reducible rfl
          rotate_left
          ·
           simp only [Act.put, sT, s0, sS, i64_w, i32_w]
           rfl
          refine one_ (i := 4) (N := some 14) #[true, true, true, true, true, false, false, false, false, false, false, false, false, false, false, false, false, false, false, false, false, false, false, false] rfl rfl (one_of HT_.out (by kernel_rfl)) (by decide) (fun K hK => ?_)
          refine goes_ Try.func16 (by kernel_rfl) rfl #[.agg #[.string ((rd_T26 l0 x3_1).f0), .int .i64 ((rd_T26 l0 x3_1).f1), .int .i64 ((rd_T26 l0 x3_1).f2), .int .i64 ((rd_T26 l0 x3_1).f3), .int .i64 ((rd_T26 l0 x3_1).f4), .int .i64 ((rd_T26 l0 x3_1).f5), .int .i64 ((rd_T26 l0 x3_1).f6), .int .i64 ((rd_T26 l0 x3_1).f7), .int .i64 ((rd_T26 l0 x3_1).f8)]] (by rfl) rfl rfl (by (try simp only [List.map_toArray, List.map_cons, List.map_nil]); first | done | rfl | (go_simp; done) | simp) ?_
          with_reducible refine (spec_IsArticle.calls k1 ((rd_T26 l0 x3_1).f0) ((rd_T26 l0 x3_1).f1) ((rd_T26 l0 x3_1).f2) ((rd_T26 l0 x3_1).f3) ((rd_T26 l0 x3_1).f4) ((rd_T26 l0 x3_1).f5) ((rd_T26 l0 x3_1).f6) ((rd_T26 l0 x3_1).f7) ((rd_T26 l0 x3_1).f8) true _ A4.out).mono ?_
          rintro e w12 ⟨rfl, hb⟩
          refine ⟨_, rfl, ?_⟩
          have n0_ := Aside0.mk (below_step (by repeat (first | (with_reducible first | exact HB.out | apply lA | apply lN | apply lD) | exact HB.out)) hb)
          clear HB
          have HB := n0_
          clear n0_
          (try clear hb)
          (try clear hb2)
          (try clear hk)
          (try clear hi)
          refine hK.out _ _ ⟨((HB.out.cell (World.block_lt_of_cell? _ _ hw115_0)).trans hw115_0), ((HB.out.cell (World.block_lt_of_cell? _ _ hw115_1)).trans hw115_1), ((HB.out.cell (World.block_lt_of_cell? _ _ hw115_2)).trans hw115_2), ((HB.out.cell (World.block_lt_of_cell? _ _ hw115_3)).trans hw115_3), ((HB.out.cell (World.block_lt_of_cell? _ _ hw115_4)).trans hw115_4), ((HB.out.cell (World.block_lt_of_cell? _ _ hw115_5)).trans hw115_5), ((HB.out.cell (World.block_lt_of_cell? _ _ hw115_6)).trans hw115_6), ((HB.out.cell (World.block_lt_of_cell? _ _ hw115_7)).trans hw115_7), ((HB.out.cell (World.block_lt_of_cell? _ _ hw115_8)).trans hw115_8), ((HB.out.cell (World.block_lt_of_cell? _ _ hw117_0)).trans hw117_0), ((HB.out.cell (World.block_lt_of_cell? _ _ hw117_1)).trans hw117_1), ((HB.out.cell (World.block_lt_of_cell? _ _ hw117_2)).trans hw117_2), ((HB.out.cell (World.block_lt_of_cell? _ _ hw117_3)).trans hw117_3), ((HB.out.cell (World.block_lt_of_cell? _ _ hw117_4)).trans hw117_4), ((HB.out.cell (World.block_lt_of_cell? _ _ hw117_5)).trans hw117_5), ((HB.out.cell (World.block_lt_of_cell? _ _ hw117_6)).trans hw117_6), ((HB.out.cell (World.block_lt_of_cell? _ _ hw117_7)).trans hw117_7), ((HB.out.cell (World.block_lt_of_cell? _ _ hw117_8)).trans hw117_8), ((HB.out.cell (World.block_lt_of_cell? _ _ hw118_0)).trans hw118_0), ((HB.out.cell (World.block_lt_of_cell? _ _ hw118_1)).trans hw118_1), ((HB.out.cell (World.block_lt_of_cell? _ _ hw118_2)).trans hw118_2), ((HB.out.cell (World.block_lt_of_cell? _ _ hw118_3)).trans hw118_3), ((HB.out.cell (World.block_lt_of_cell? _ _ hw118_4)).trans hw118_4), ((HB.out.cell (World.block_lt_of_cell? _ _ hw118_5)).trans hw118_5), ((HB.out.cell (World.block_lt_of_cell? _ _ hw118_6)).trans hw118_6), ((HB.out.cell (World.block_lt_of_cell? _ _ hw118_7)).trans hw118_7), ((HB.out.cell (World.block_lt_of_cell? _ _ hw118_8)).trans hw118_8)⟩ (fun hHeld => ?_)
          clear hK K
          refine norm_ (a' := ?_) ?_ ?_
          rotate_left
          ·
           show Act.put _ (some 14) _ = _
           simp only [Act.put, sT, s0, sS, i64_w, i32_w]
           rfl
          refine pure_ (i := 5) (N := some 15) (v := ?_) (a' := ?_) #[true, true, true, true, true, true, false, false, false, false, false, false, false, false, false, false, false, false, false, false, false, false, false, false] rfl rfl (any_of HT_.out (by kernel_rfl)) (fun _ _ _ h => h) (Or.inl ⟨by rfl, ?_⟩) ?_ ?_
          rotate_left
          ·
           intro w'
           go_simp
           with_reducible rfl
          rotate_left
          ·
           simp only [Act.put, sT, s0, sS, i64_w, i32_w]
           rfl
          refine pure_ (i := 6) (N := some 16) (v := ?_) (a' := ?_) #[true, true, true, true, true, true, true, false, false, false, false, false, false, false, false, false, false, false, false, false, false, false, false, false] rfl rfl (any_of HT_.out (by kernel_rfl)) (fun _ _ _ h => h) (Or.inl ⟨by rfl, ?_⟩) ?_ ?_
          rotate_left
          ·
           intro w'
           go_simp
           with_reducible rfl
          rotate_left
          ·
           simp only [Act.put, sT, s0, sS, i64_w, i32_w]
           rfl
          refine pure_ (i := 7) (N := some 17) (v := ?_) (a' := ?_) #[true, true, true, true, true, true, true, true, false, false, false, false, false, false, false, false, false, false, false, false, false, false, false, false] rfl rfl (any_of HT_.out (by kernel_rfl)) (fun _ _ _ h => h) (Or.inl ⟨by rfl, ?_⟩) ?_ ?_
          rotate_left
          ·
           intro w'
           go_simp
           with_reducible rfl
          rotate_left
          ·
           simp only [Act.put, sT, s0, sS, i64_w, i32_w]
           rfl
          refine pure_ (i := 8) (N := some 18) (v := ?_) (a' := ?_) #[true, true, true, true, true, true, true, true, true, false, false, false, false, false, false, false, false, false, false, false, false, false, false, false] rfl rfl (any_of HT_.out (by kernel_rfl)) (fun _ _ _ h => h) (Or.inl ⟨by rfl, ?_⟩) ?_ ?_
          rotate_left
          ·
           intro w'
           go_simp
           with_reducible rfl
          rotate_left
          ·
           simp only [Act.put, sT, s0, sS, i64_w, i32_w]
           rfl
          refine pure_ (i := 9) (N := some 19) (v := ?_) (a' := ?_) #[true, true, true, true, true, true, true, true, true, true, false, false, false, false, false, false, false, false, false, false, false, false, false, false] rfl rfl (any_of HT_.out (by kernel_rfl)) (fun _ _ _ h => h) (Or.inl ⟨by rfl, ?_⟩) ?_ ?_
          rotate_left
          ·
           intro w'
           go_simp
           with_reducible rfl
          rotate_left
          ·
           simp only [Act.put, sT, s0, sS, i64_w, i32_w]
           rfl
          refine pure_ (i := 10) (N := some 20) (v := ?_) (a' := ?_) #[true, true, true, true, true, true, true, true, true, true, true, false, false, false, false, false, false, false, false, false, false, false, false, false] rfl rfl (any_of HT_.out (by kernel_rfl)) (fun _ _ _ h => h) (Or.inl ⟨by rfl, ?_⟩) ?_ ?_
          rotate_left
          ·
           intro w'
           go_simp
           with_reducible rfl
          rotate_left
          ·
           simp only [Act.put, sT, s0, sS, i64_w, i32_w]
           rfl
          refine pure_ (i := 11) (N := some 21) (v := ?_) (a' := ?_) #[true, true, true, true, true, true, true, true, true, true, true, true, false, false, false, false, false, false, false, false, false, false, false, false] rfl rfl (any_of HT_.out (by kernel_rfl)) (fun _ _ _ h => h) (Or.inl ⟨by rfl, ?_⟩) ?_ ?_
          rotate_left
          ·
           intro w'
           go_simp
           with_reducible rfl
          rotate_left
          ·
           simp only [Act.put, sT, s0, sS, i64_w, i32_w]
           rfl
          refine pure_ (i := 12) (N := some 22) (v := ?_) (a' := ?_) #[true, true, true, true, true, true, true, true, true, true, true, true, true, false, false, false, false, false, false, false, false, false, false, false] rfl rfl (any_of HT_.out (by kernel_rfl)) (fun _ _ _ h => h) (Or.inl ⟨by rfl, ?_⟩) ?_ ?_
          rotate_left
          ·
           intro w'
           go_simp
           with_reducible rfl
          rotate_left
          ·
           simp only [Act.put, sT, s0, sS, i64_w, i32_w]
           rfl
          refine pure_ (i := 13) (N := some 23) (v := ?_) (a' := ?_) #[true, true, true, true, true, true, true, true, true, true, true, true, true, true, false, false, false, false, false, false, false, false, false, false] rfl rfl (any_of HT_.out (by kernel_rfl)) (fun _ _ _ h => h) (Or.inl ⟨by rfl, ?_⟩) ?_ ?_
          rotate_left
          ·
           intro w'
           go_simp
           with_reducible rfl
          rotate_left
          ·
           simp only [Act.put, sT, s0, sS, i64_w, i32_w]
           rfl
          refine pure_ (i := 14) (N := some 24) (v := ?_) (a' := ?_) #[true, true, true, true, true, true, true, true, true, true, true, true, true, true, true, false, false, false, false, false, false, false, false, false] rfl rfl (any_of HT_.out (by kernel_rfl)) (fun _ _ _ h => h) (Or.inl ⟨by rfl, ?_⟩) ?_ ?_
          rotate_left
          ·
           intro w'
           go_simp
           with_reducible rfl
          rotate_left
          ·
           simp only [Act.put, sT, s0, sS, i64_w, i32_w]
           rfl
          refine pure_ (i := 16) (N := some 26) (v := ?_) (a' := ?_) #[true, true, true, true, true, true, true, true, true, true, true, true, true, true, true, false, true, false, false, false, false, false, false, false] rfl rfl (any_of HT_.out (by kernel_rfl)) (fun _ _ _ h => h) (Or.inl ⟨by rfl, ?_⟩) ?_ ?_
          rotate_left
          ·
           intro w'
           go_simp
           with_reducible rfl
          rotate_left
          ·
           simp only [Act.put, sT, s0, sS, i64_w, i32_w]
           rfl
          refine pure_ (i := 17) (N := some 27) (v := ?_) (a' := ?_) #[true, true, true, true, true, true, true, true, true, true, true, true, true, true, true, false, true, true, false, false, false, false, false, false] rfl rfl (any_of HT_.out (by kernel_rfl)) (fun _ _ _ h => h) (Or.inl ⟨by rfl, ?_⟩) ?_ ?_
          rotate_left
          ·
           intro w'
           go_simp
           with_reducible rfl
          rotate_left
          ·
           simp only [Act.put, sT, s0, sS, i64_w, i32_w]
           rfl
          refine pure_ (i := 18) (N := some 28) (v := ?_) (a' := ?_) #[true, true, true, true, true, true, true, true, true, true, true, true, true, true, true, false, true, true, true, false, false, false, false, false] rfl rfl (any_of HT_.out (by kernel_rfl)) (fun _ _ _ h => h) (Or.inl ⟨by rfl, ?_⟩) ?_ ?_
          rotate_left
          ·
           intro w'
           go_simp
           with_reducible rfl
          rotate_left
          ·
           simp only [Act.put, sT, s0, sS, i64_w, i32_w]
           rfl
          refine pure_ (i := 19) (N := some 29) (v := ?_) (a' := ?_) #[true, true, true, true, true, true, true, true, true, true, true, true, true, true, true, false, true, true, true, true, false, false, false, false] rfl rfl (any_of HT_.out (by kernel_rfl)) (fun _ _ _ h => h) (Or.inl ⟨by rfl, ?_⟩) ?_ ?_
          rotate_left
          ·
           intro w'
           go_simp
           with_reducible rfl
          rotate_left
          ·
           simp only [Act.put, sT, s0, sS, i64_w, i32_w]
           rfl
          refine take_ (i := 15) (N := some 25) (v := ?_) (a' := ?_) #[true, true, true, true, true, true, true, true, true, true, true, true, true, true, true, true, true, true, true, true, false, false, false, false] rfl rfl (take_ofW HT_.out HW_.out (by kernel_rfl)) (fun _ _ _ h => h) (Or.inl ⟨by rfl, ?_⟩) hHeld ?_ ?_
          rotate_left
          ·
           rintro w' ⟨s0, s1, s2, s3, s4, s5, s6, s7, s8, s9, s10, s11, s12, s13, s14, s15, s16, s17, s18, s19, s20, s21, s22, s23, s24, s25, s26⟩
           go_simp
           with_reducible rfl
          rotate_left
          ·
           simp only [Act.put, sT, s0, sS, i64_w, i32_w]
           rfl
          refine take_ (i := 20) (N := some 30) (v := ?_) (a' := ?_) #[true, true, true, true, true, true, true, true, true, true, true, true, true, true, true, true, true, true, true, true, true, false, false, false] rfl rfl (take_ofW HT_.out HW_.out (by kernel_rfl)) (fun _ _ _ h => h) (Or.inl ⟨by rfl, ?_⟩) hHeld ?_ ?_
          rotate_left
          ·
           rintro w' ⟨s0, s1, s2, s3, s4, s5, s6, s7, s8, s9, s10, s11, s12, s13, s14, s15, s16, s17, s18, s19, s20, s21, s22, s23, s24, s25, s26⟩
           go_simp
           with_reducible rfl
          rotate_left
          ·
           simp only [Act.put, sT, s0, sS, i64_w, i32_w]
           rfl
          refine pure_ (i := 21) (N := some 31) (v := ?_) (a' := ?_) #[true, true, true, true, true, true, true, true, true, true, true, true, true, true, true, true, true, true, true, true, true, true, false, false] rfl rfl (any_of HT_.out (by kernel_rfl)) (fun _ _ _ h => h) (Or.inl ⟨by rfl, ?_⟩) ?_ ?_
          rotate_left
          ·
           intro w'
           go_simp
           with_reducible rfl
          rotate_left
          ·
           simp only [Act.put, sT, s0, sS, i64_w, i32_w]
           rfl
          refine pure_ (i := 22) (N := some 32) (v := ?_) (a' := ?_) #[true, true, true, true, true, true, true, true, true, true, true, true, true, true, true, true, true, true, true, true, true, true, true, false] rfl rfl (any_of HT_.out (by kernel_rfl)) (fun _ _ _ h => h) (Or.inl ⟨by rfl, ?_⟩) ?_ ?_
          rotate_left
          ·
           intro w'
           go_simp
           with_reducible rfl
          rotate_left
          ·
           simp only [Act.put, sT, s0, sS, i64_w, i32_w]
           rfl
          refine pure_ (i := 23) (N := some 33) (v := ?_) (a' := ?_) #[true, true, true, true, true, true, true, true, true, true, true, true, true, true, true, true, true, true, true, true, true, true, true, true] rfl rfl (any_of HT_.out (by kernel_rfl)) (fun _ _ _ h => h) (Or.inl ⟨by rfl, ?_⟩) ?_ ?_
          rotate_left
          ·
           intro w'
           go_simp
           with_reducible rfl
          rotate_left
          ·
           simp only [Act.put, sT, s0, sS, i64_w, i32_w]
           rfl
          refine done_ (done_of HT_.out (by kernel_rfl)) ?_
          try go_wp2
          go_roundg k1
          case measure => have := HK1.out; omega
          case rel => exact ⟨(wrap64 (x3_1 + 1)), (by first | rfl | (simp; done) | (simp [*]; done)), (by first | exact H' | (simp only [hji7]; exact H') | (have H2_ := H'; simp only [← hji7] at H2_; exact H2_)), ⟨by have := HK1.out; omega⟩, ⟨by repeat (first | (with_reducible first | exact HB.out | apply lA | apply lN | apply lD) | exact HB.out)⟩⟩
         ·
          rw [if_neg c10] at H
          have c10b0 : (Op.bytesLess (((rd_T26 l0 (ji7)).f0).toList) (((rd_T26 l0 x3_1).f0).toList)) = false := by simpa using c10
          clear c10
          obtain rfl := Option.some.inj H
          simp only [Option.some.injEq, Prod.mk.injEq] at H
          obtain ⟨rfl⟩ := H
          try go_wp2
          have n0_ := Aside0.mk (below_drew1 HB.out)
          clear HB
          have HB := n0_
          clear n0_
          have p115 : 0 ≤ (x3_1 : Int) := of_decide_eq_true (by with_reducible assumption)
          have q115 : x3_1 < (l0.length : Int) := of_decide_eq_true (by with_reducible assumption)
          obtain ⟨ad115, e115, hx115_0, hx115_1, hx115_2, hx115_3, hx115_4, hx115_5, hx115_6, hx115_7, hx115_8⟩ := at_T26 HR0.out x3_1 p115 q115
          have hw115_8 := hx115_8
          have hw115_7 := hx115_7
          have hw115_6 := hx115_6
          have hw115_5 := hx115_5
          have hw115_4 := hx115_4
          have hw115_3 := hx115_3
          have hw115_2 := hx115_2
          have hw115_1 := hx115_1
          have hw115_0 := hx115_0
          cases e115
          replace hx115_0 := cB HB.out hx115_0
          replace hx115_1 := cB HB.out hx115_1
          replace hx115_2 := cB HB.out hx115_2
          replace hx115_3 := cB HB.out hx115_3
          replace hx115_4 := cB HB.out hx115_4
          replace hx115_5 := cB HB.out hx115_5
          replace hx115_6 := cB HB.out hx115_6
          replace hx115_7 := cB HB.out hx115_7
          replace hx115_8 := cB HB.out hx115_8
          replace p115 := eq_true p115
          replace q115 := eq_true q115
          have p117 : 0 ≤ ((ji7) : Int) := of_decide_eq_true (by with_reducible assumption)
          have q117 : (ji7) < (l0.length : Int) := of_decide_eq_true (by with_reducible assumption)
          obtain ⟨ad117, e117, hx117_0, hx117_1, hx117_2, hx117_3, hx117_4, hx117_5, hx117_6, hx117_7, hx117_8⟩ := at_T26 HR0.out (ji7) p117 q117
          have hw117_8 := hx117_8
          have hw117_7 := hx117_7
          have hw117_6 := hx117_6
          have hw117_5 := hx117_5
          have hw117_4 := hx117_4
          have hw117_3 := hx117_3
          have hw117_2 := hx117_2
          have hw117_1 := hx117_1
          have hw117_0 := hx117_0
          obtain rfl : ad115 = ad117 := (by injection e117)
          replace hx117_0 := cB HB.out hx117_0
          replace hx117_1 := cB HB.out hx117_1
          replace hx117_2 := cB HB.out hx117_2
          replace hx117_3 := cB HB.out hx117_3
          replace hx117_4 := cB HB.out hx117_4
          replace hx117_5 := cB HB.out hx117_5
          replace hx117_6 := cB HB.out hx117_6
          replace hx117_7 := cB HB.out hx117_7
          replace hx117_8 := cB HB.out hx117_8
          replace p117 := eq_true p117
          replace q117 := eq_true q117
          have p118 : 0 ≤ (x3_1 : Int) := of_decide_eq_true (by with_reducible assumption)
          have q118 : x3_1 < (l0.length : Int) := of_decide_eq_true (by with_reducible assumption)
          obtain ⟨ad118, e118, hx118_0, hx118_1, hx118_2, hx118_3, hx118_4, hx118_5, hx118_6, hx118_7, hx118_8⟩ := at_T26 HR0.out x3_1 p118 q118
          have hw118_8 := hx118_8
          have hw118_7 := hx118_7
          have hw118_6 := hx118_6
          have hw118_5 := hx118_5
          have hw118_4 := hx118_4
          have hw118_3 := hx118_3
          have hw118_2 := hx118_2
          have hw118_1 := hx118_1
          have hw118_0 := hx118_0
          obtain rfl : ad115 = ad118 := (by injection e118)
          replace hx118_0 := cB HB.out hx118_0
          replace hx118_1 := cB HB.out hx118_1
          replace hx118_2 := cB HB.out hx118_2
          replace hx118_3 := cB HB.out hx118_3
          replace hx118_4 := cB HB.out hx118_4
          replace hx118_5 := cB HB.out hx118_5
          replace hx118_6 := cB HB.out hx118_6
          replace hx118_7 := cB HB.out hx118_7
          replace hx118_8 := cB HB.out hx118_8
          replace p118 := eq_true p118
          replace q118 := eq_true q118
          refine start_ (n := 24) (S := fun w' => w'.cell? (ad115.add ((x3_1).toNat * 9)) = some (.string ((rd_T26 l0 x3_1).f0)) ∧ w'.cell? ⟨(ad115.add ((x3_1).toNat * 9)).block, (ad115.add ((x3_1).toNat * 9)).off + 1, none⟩ = some (.int .i64 ((rd_T26 l0 x3_1).f1)) ∧ w'.cell? ⟨(ad115.add ((x3_1).toNat * 9)).block, (ad115.add ((x3_1).toNat * 9)).off + 2, none⟩ = some (.int .i64 ((rd_T26 l0 x3_1).f2)) ∧ w'.cell? ⟨(ad115.add ((x3_1).toNat * 9)).block, (ad115.add ((x3_1).toNat * 9)).off + 3, none⟩ = some (.int .i64 ((rd_T26 l0 x3_1).f3)) ∧ w'.cell? ⟨(ad115.add ((x3_1).toNat * 9)).block, (ad115.add ((x3_1).toNat * 9)).off + 4, none⟩ = some (.int .i64 ((rd_T26 l0 x3_1).f4)) ∧ w'.cell? ⟨(ad115.add ((x3_1).toNat * 9)).block, (ad115.add ((x3_1).toNat * 9)).off + 5, none⟩ = some (.int .i64 ((rd_T26 l0 x3_1).f5)) ∧ w'.cell? ⟨(ad115.add ((x3_1).toNat * 9)).block, (ad115.add ((x3_1).toNat * 9)).off + 6, none⟩ = some (.int .i64 ((rd_T26 l0 x3_1).f6)) ∧ w'.cell? ⟨(ad115.add ((x3_1).toNat * 9)).block, (ad115.add ((x3_1).toNat * 9)).off + 7, none⟩ = some (.int .i64 ((rd_T26 l0 x3_1).f7)) ∧ w'.cell? ⟨(ad115.add ((x3_1).toNat * 9)).block, (ad115.add ((x3_1).toNat * 9)).off + 8, none⟩ = some (.int .i64 ((rd_T26 l0 x3_1).f8)) ∧ w'.cell? (ad115.add (((ji7)).toNat * 9)) = some (.string ((rd_T26 l0 (ji7)).f0)) ∧ w'.cell? ⟨(ad115.add (((ji7)).toNat * 9)).block, (ad115.add (((ji7)).toNat * 9)).off + 1, none⟩ = some (.int .i64 ((rd_T26 l0 (ji7)).f1)) ∧ w'.cell? ⟨(ad115.add (((ji7)).toNat * 9)).block, (ad115.add (((ji7)).toNat * 9)).off + 2, none⟩ = some (.int .i64 ((rd_T26 l0 (ji7)).f2)) ∧ w'.cell? ⟨(ad115.add (((ji7)).toNat * 9)).block, (ad115.add (((ji7)).toNat * 9)).off + 3, none⟩ = some (.int .i64 ((rd_T26 l0 (ji7)).f3)) ∧ w'.cell? ⟨(ad115.add (((ji7)).toNat * 9)).block, (ad115.add (((ji7)).toNat * 9)).off + 4, none⟩ = some (.int .i64 ((rd_T26 l0 (ji7)).f4)) ∧ w'.cell? ⟨(ad115.add (((ji7)).toNat * 9)).block, (ad115.add (((ji7)).toNat * 9)).off + 5, none⟩ = some (.int .i64 ((rd_T26 l0 (ji7)).f5)) ∧ w'.cell? ⟨(ad115.add (((ji7)).toNat * 9)).block, (ad115.add (((ji7)).toNat * 9)).off + 6, none⟩ = some (.int .i64 ((rd_T26 l0 (ji7)).f6)) ∧ w'.cell? ⟨(ad115.add (((ji7)).toNat * 9)).block, (ad115.add (((ji7)).toNat * 9)).off + 7, none⟩ = some (.int .i64 ((rd_T26 l0 (ji7)).f7)) ∧ w'.cell? ⟨(ad115.add (((ji7)).toNat * 9)).block, (ad115.add (((ji7)).toNat * 9)).off + 8, none⟩ = some (.int .i64 ((rd_T26 l0 (ji7)).f8)) ∧ w'.cell? (ad115.add ((x3_1).toNat * 9)) = some (.string ((rd_T26 l0 x3_1).f0)) ∧ w'.cell? ⟨(ad115.add ((x3_1).toNat * 9)).block, (ad115.add ((x3_1).toNat * 9)).off + 1, none⟩ = some (.int .i64 ((rd_T26 l0 x3_1).f1)) ∧ w'.cell? ⟨(ad115.add ((x3_1).toNat * 9)).block, (ad115.add ((x3_1).toNat * 9)).off + 2, none⟩ = some (.int .i64 ((rd_T26 l0 x3_1).f2)) ∧ w'.cell? ⟨(ad115.add ((x3_1).toNat * 9)).block, (ad115.add ((x3_1).toNat * 9)).off + 3, none⟩ = some (.int .i64 ((rd_T26 l0 x3_1).f3)) ∧ w'.cell? ⟨(ad115.add ((x3_1).toNat * 9)).block, (ad115.add ((x3_1).toNat * 9)).off + 4, none⟩ = some (.int .i64 ((rd_T26 l0 x3_1).f4)) ∧ w'.cell? ⟨(ad115.add ((x3_1).toNat * 9)).block, (ad115.add ((x3_1).toNat * 9)).off + 5, none⟩ = some (.int .i64 ((rd_T26 l0 x3_1).f5)) ∧ w'.cell? ⟨(ad115.add ((x3_1).toNat * 9)).block, (ad115.add ((x3_1).toNat * 9)).off + 6, none⟩ = some (.int .i64 ((rd_T26 l0 x3_1).f6)) ∧ w'.cell? ⟨(ad115.add ((x3_1).toNat * 9)).block, (ad115.add ((x3_1).toNat * 9)).off + 7, none⟩ = some (.int .i64 ((rd_T26 l0 x3_1).f7)) ∧ w'.cell? ⟨(ad115.add ((x3_1).toNat * 9)).block, (ad115.add ((x3_1).toNat * 9)).off + 8, none⟩ = some (.int .i64 ((rd_T26 l0 x3_1).f8))) (ds := []) #[false, false, false, false, false, false, false, false, false, false, false, false, false, false, false, false, false, false, false, false, false, false, false, false] (by kernel_rfl) rfl rfl ⟨((HB.out.cell (World.block_lt_of_cell? _ _ hw115_0)).trans hw115_0), ((HB.out.cell (World.block_lt_of_cell? _ _ hw115_1)).trans hw115_1), ((HB.out.cell (World.block_lt_of_cell? _ _ hw115_2)).trans hw115_2), ((HB.out.cell (World.block_lt_of_cell? _ _ hw115_3)).trans hw115_3), ((HB.out.cell (World.block_lt_of_cell? _ _ hw115_4)).trans hw115_4), ((HB.out.cell (World.block_lt_of_cell? _ _ hw115_5)).trans hw115_5), ((HB.out.cell (World.block_lt_of_cell? _ _ hw115_6)).trans hw115_6), ((HB.out.cell (World.block_lt_of_cell? _ _ hw115_7)).trans hw115_7), ((HB.out.cell (World.block_lt_of_cell? _ _ hw115_8)).trans hw115_8), ((HB.out.cell (World.block_lt_of_cell? _ _ hw117_0)).trans hw117_0), ((HB.out.cell (World.block_lt_of_cell? _ _ hw117_1)).trans hw117_1), ((HB.out.cell (World.block_lt_of_cell? _ _ hw117_2)).trans hw117_2), ((HB.out.cell (World.block_lt_of_cell? _ _ hw117_3)).trans hw117_3), ((HB.out.cell (World.block_lt_of_cell? _ _ hw117_4)).trans hw117_4), ((HB.out.cell (World.block_lt_of_cell? _ _ hw117_5)).trans hw117_5), ((HB.out.cell (World.block_lt_of_cell? _ _ hw117_6)).trans hw117_6), ((HB.out.cell (World.block_lt_of_cell? _ _ hw117_7)).trans hw117_7), ((HB.out.cell (World.block_lt_of_cell? _ _ hw117_8)).trans hw117_8), ((HB.out.cell (World.block_lt_of_cell? _ _ hw118_0)).trans hw118_0), ((HB.out.cell (World.block_lt_of_cell? _ _ hw118_1)).trans hw118_1), ((HB.out.cell (World.block_lt_of_cell? _ _ hw118_2)).trans hw118_2), ((HB.out.cell (World.block_lt_of_cell? _ _ hw118_3)).trans hw118_3), ((HB.out.cell (World.block_lt_of_cell? _ _ hw118_4)).trans hw118_4), ((HB.out.cell (World.block_lt_of_cell? _ _ hw118_5)).trans hw118_5), ((HB.out.cell (World.block_lt_of_cell? _ _ hw118_6)).trans hw118_6), ((HB.out.cell (World.block_lt_of_cell? _ _ hw118_7)).trans hw118_7), ((HB.out.cell (World.block_lt_of_cell? _ _ hw118_8)).trans hw118_8)⟩ (fun hHeld => ?_); refine with_tabW spec_AreArticles.tab4 spec_AreArticles.bits4 (fun HT_ HW_ => ?_)
          generalize wr.drew = w13 at HB hx115_0 hx115_1 hx115_2 hx115_3 hx115_4 hx115_5 hx115_6 hx115_7 hx115_8 hx117_0 hx117_1 hx117_2 hx117_3 hx117_4 hx117_5 hx117_6 hx117_7 hx117_8 hx118_0 hx118_1 hx118_2 hx118_3 hx118_4 hx118_5 hx118_6 hx118_7 hx118_8 hHeld ⊢
          refine pure_ (i := 0) (N := some 10) (v := ?_) (a' := ?_) #[true, false, false, false, false, false, false, false, false, false, false, false, false, false, false, false, false, false, false, false, false, false, false, false] rfl rfl (any_of HT_.out (by kernel_rfl)) (fun _ _ _ h => h) (Or.inl ⟨by rfl, ?_⟩) ?_ ?_
          rotate_left
          ·
           intro w'
           go_simp
           with_reducible rfl
          rotate_left
          ·
           simp only [Act.put, sT, s0, sS, i64_w, i32_w]
           rfl
          refine pure_ (i := 1) (N := some 11) (v := ?_) (a' := ?_) #[true, true, false, false, false, false, false, false, false, false, false, false, false, false, false, false, false, false, false, false, false, false, false, false] rfl rfl (any_of HT_.out (by kernel_rfl)) (fun _ _ _ h => h) (Or.inl ⟨by rfl, ?_⟩) ?_ ?_
          rotate_left
          ·
           intro w'
           go_simp
           with_reducible rfl
          rotate_left
          ·
           simp only [Act.put, sT, s0, sS, i64_w, i32_w]
           rfl
          refine pure_ (i := 2) (N := some 12) (v := ?_) (a' := ?_) #[true, true, true, false, false, false, false, false, false, false, false, false, false, false, false, false, false, false, false, false, false, false, false, false] rfl rfl (any_of HT_.out (by kernel_rfl)) (fun _ _ _ h => h) (Or.inl ⟨by rfl, ?_⟩) ?_ ?_
          rotate_left
          ·
           intro w'
           go_simp
           with_reducible rfl
          rotate_left
          ·
           simp only [Act.put, sT, s0, sS, i64_w, i32_w]
           rfl
          refine take_ (i := 3) (N := some 13) (v := ?_) (a' := ?_) #[true, true, true, true, false, false, false, false, false, false, false, false, false, false, false, false, false, false, false, false, false, false, false, false] rfl rfl (take_ofW HT_.out HW_.out (by kernel_rfl)) (fun _ _ _ h => h) (Or.inl ⟨by rfl, ?_⟩) hHeld ?_ ?_
          rotate_left
          ·
           rintro w' ⟨s0, s1, s2, s3, s4, s5, s6, s7, s8, s9, s10, s11, s12, s13, s14, s15, s16, s17, s18, s19, s20, s21, s22, s23, s24, s25, s26⟩
           go_simp
           with_reducible rfl
          rotate_left
          ·
           simp only [Act.put, sT, s0, sS, i64_w, i32_w]
           rfl
          refine one_ (i := 4) (N := some 14) #[true, true, true, true, true, false, false, false, false, false, false, false, false, false, false, false, false, false, false, false, false, false, false, false] rfl rfl (one_of HT_.out (by kernel_rfl)) (by decide) (fun K hK => ?_)
          refine goes_ Try.func16 (by kernel_rfl) rfl #[.agg #[.string ((rd_T26 l0 x3_1).f0), .int .i64 ((rd_T26 l0 x3_1).f1), .int .i64 ((rd_T26 l0 x3_1).f2), .int .i64 ((rd_T26 l0 x3_1).f3), .int .i64 ((rd_T26 l0 x3_1).f4), .int .i64 ((rd_T26 l0 x3_1).f5), .int .i64 ((rd_T26 l0 x3_1).f6), .int .i64 ((rd_T26 l0 x3_1).f7), .int .i64 ((rd_T26 l0 x3_1).f8)]] (by rfl) rfl rfl (by (try simp only [List.map_toArray, List.map_cons, List.map_nil]); first | done | rfl | (go_simp; done) | simp) ?_
          with_reducible refine (spec_IsArticle.calls k1 ((rd_T26 l0 x3_1).f0) ((rd_T26 l0 x3_1).f1) ((rd_T26 l0 x3_1).f2) ((rd_T26 l0 x3_1).f3) ((rd_T26 l0 x3_1).f4) ((rd_T26 l0 x3_1).f5) ((rd_T26 l0 x3_1).f6) ((rd_T26 l0 x3_1).f7) ((rd_T26 l0 x3_1).f8) true _ A4.out).mono ?_
          rintro e w14 ⟨rfl, hb⟩
          refine ⟨_, rfl, ?_⟩
          have n0_ := Aside0.mk (below_step (by repeat (first | (with_reducible first | exact HB.out | apply lA | apply lN | apply lD) | exact HB.out)) hb)
          clear HB
          have HB := n0_
          clear n0_
          (try clear hb)
          (try clear hb2)
          (try clear hk)
          (try clear hi)
          refine hK.out _ _ ⟨((HB.out.cell (World.block_lt_of_cell? _ _ hw115_0)).trans hw115_0), ((HB.out.cell (World.block_lt_of_cell? _ _ hw115_1)).trans hw115_1), ((HB.out.cell (World.block_lt_of_cell? _ _ hw115_2)).trans hw115_2), ((HB.out.cell (World.block_lt_of_cell? _ _ hw115_3)).trans hw115_3), ((HB.out.cell (World.block_lt_of_cell? _ _ hw115_4)).trans hw115_4), ((HB.out.cell (World.block_lt_of_cell? _ _ hw115_5)).trans hw115_5), ((HB.out.cell (World.block_lt_of_cell? _ _ hw115_6)).trans hw115_6), ((HB.out.cell (World.block_lt_of_cell? _ _ hw115_7)).trans hw115_7), ((HB.out.cell (World.block_lt_of_cell? _ _ hw115_8)).trans hw115_8), ((HB.out.cell (World.block_lt_of_cell? _ _ hw117_0)).trans hw117_0), ((HB.out.cell (World.block_lt_of_cell? _ _ hw117_1)).trans hw117_1), ((HB.out.cell (World.block_lt_of_cell? _ _ hw117_2)).trans hw117_2), ((HB.out.cell (World.block_lt_of_cell? _ _ hw117_3)).trans hw117_3), ((HB.out.cell (World.block_lt_of_cell? _ _ hw117_4)).trans hw117_4), ((HB.out.cell (World.block_lt_of_cell? _ _ hw117_5)).trans hw117_5), ((HB.out.cell (World.block_lt_of_cell? _ _ hw117_6)).trans hw117_6), ((HB.out.cell (World.block_lt_of_cell? _ _ hw117_7)).trans hw117_7), ((HB.out.cell (World.block_lt_of_cell? _ _ hw117_8)).trans hw117_8), ((HB.out.cell (World.block_lt_of_cell? _ _ hw118_0)).trans hw118_0), ((HB.out.cell (World.block_lt_of_cell? _ _ hw118_1)).trans hw118_1), ((HB.out.cell (World.block_lt_of_cell? _ _ hw118_2)).trans hw118_2), ((HB.out.cell (World.block_lt_of_cell? _ _ hw118_3)).trans hw118_3), ((HB.out.cell (World.block_lt_of_cell? _ _ hw118_4)).trans hw118_4), ((HB.out.cell (World.block_lt_of_cell? _ _ hw118_5)).trans hw118_5), ((HB.out.cell (World.block_lt_of_cell? _ _ hw118_6)).trans hw118_6), ((HB.out.cell (World.block_lt_of_cell? _ _ hw118_7)).trans hw118_7), ((HB.out.cell (World.block_lt_of_cell? _ _ hw118_8)).trans hw118_8)⟩ (fun hHeld => ?_)
          clear hK K
          refine norm_ (a' := ?_) ?_ ?_
          rotate_left
          ·
           show Act.put _ (some 14) _ = _
           simp only [Act.put, sT, s0, sS, i64_w, i32_w]
           rfl
          refine pure_ (i := 5) (N := some 15) (v := ?_) (a' := ?_) #[true, true, true, true, true, true, false, false, false, false, false, false, false, false, false, false, false, false, false, false, false, false, false, false] rfl rfl (any_of HT_.out (by kernel_rfl)) (fun _ _ _ h => h) (Or.inl ⟨by rfl, ?_⟩) ?_ ?_
          rotate_left
          ·
           intro w'
           go_simp
           with_reducible rfl
          rotate_left
          ·
           simp only [Act.put, sT, s0, sS, i64_w, i32_w]
           rfl
          refine pure_ (i := 6) (N := some 16) (v := ?_) (a' := ?_) #[true, true, true, true, true, true, true, false, false, false, false, false, false, false, false, false, false, false, false, false, false, false, false, false] rfl rfl (any_of HT_.out (by kernel_rfl)) (fun _ _ _ h => h) (Or.inl ⟨by rfl, ?_⟩) ?_ ?_
          rotate_left
          ·
           intro w'
           go_simp
           with_reducible rfl
          rotate_left
          ·
           simp only [Act.put, sT, s0, sS, i64_w, i32_w]
           rfl
          refine pure_ (i := 7) (N := some 17) (v := ?_) (a' := ?_) #[true, true, true, true, true, true, true, true, false, false, false, false, false, false, false, false, false, false, false, false, false, false, false, false] rfl rfl (any_of HT_.out (by kernel_rfl)) (fun _ _ _ h => h) (Or.inl ⟨by rfl, ?_⟩) ?_ ?_
          rotate_left
          ·
           intro w'
           go_simp
           with_reducible rfl
          rotate_left
          ·
           simp only [Act.put, sT, s0, sS, i64_w, i32_w]
           rfl
          refine pure_ (i := 8) (N := some 18) (v := ?_) (a' := ?_) #[true, true, true, true, true, true, true, true, true, false, false, false, false, false, false, false, false, false, false, false, false, false, false, false] rfl rfl (any_of HT_.out (by kernel_rfl)) (fun _ _ _ h => h) (Or.inl ⟨by rfl, ?_⟩) ?_ ?_
          rotate_left
          ·
           intro w'
           go_simp
           with_reducible rfl
          rotate_left
          ·
           simp only [Act.put, sT, s0, sS, i64_w, i32_w]
           rfl
          refine pure_ (i := 9) (N := some 19) (v := ?_) (a' := ?_) #[true, true, true, true, true, true, true, true, true, true, false, false, false, false, false, false, false, false, false, false, false, false, false, false] rfl rfl (any_of HT_.out (by kernel_rfl)) (fun _ _ _ h => h) (Or.inl ⟨by rfl, ?_⟩) ?_ ?_
          rotate_left
          ·
           intro w'
           go_simp
           with_reducible rfl
          rotate_left
          ·
           simp only [Act.put, sT, s0, sS, i64_w, i32_w]
           rfl
          refine pure_ (i := 10) (N := some 20) (v := ?_) (a' := ?_) #[true, true, true, true, true, true, true, true, true, true, true, false, false, false, false, false, false, false, false, false, false, false, false, false] rfl rfl (any_of HT_.out (by kernel_rfl)) (fun _ _ _ h => h) (Or.inl ⟨by rfl, ?_⟩) ?_ ?_
          rotate_left
          ·
           intro w'
           go_simp
           with_reducible rfl
          rotate_left
          ·
           simp only [Act.put, sT, s0, sS, i64_w, i32_w]
           rfl
          refine pure_ (i := 11) (N := some 21) (v := ?_) (a' := ?_) #[true, true, true, true, true, true, true, true, true, true, true, true, false, false, false, false, false, false, false, false, false, false, false, false] rfl rfl (any_of HT_.out (by kernel_rfl)) (fun _ _ _ h => h) (Or.inl ⟨by rfl, ?_⟩) ?_ ?_
          rotate_left
          ·
           intro w'
           go_simp
           with_reducible rfl
          rotate_left
          ·
           simp only [Act.put, sT, s0, sS, i64_w, i32_w]
           rfl
          refine pure_ (i := 12) (N := some 22) (v := ?_) (a' := ?_) #[true, true, true, true, true, true, true, true, true, true, true, true, true, false, false, false, false, false, false, false, false, false, false, false] rfl rfl (any_of HT_.out (by kernel_rfl)) (fun _ _ _ h => h) (Or.inl ⟨by rfl, ?_⟩) ?_ ?_
          rotate_left
          ·
           intro w'
           go_simp
           with_reducible rfl
          rotate_left
          ·
           simp only [Act.put, sT, s0, sS, i64_w, i32_w]
           rfl
          refine pure_ (i := 13) (N := some 23) (v := ?_) (a' := ?_) #[true, true, true, true, true, true, true, true, true, true, true, true, true, true, false, false, false, false, false, false, false, false, false, false] rfl rfl (any_of HT_.out (by kernel_rfl)) (fun _ _ _ h => h) (Or.inl ⟨by rfl, ?_⟩) ?_ ?_
          rotate_left
          ·
           intro w'
           go_simp
           with_reducible rfl
          rotate_left
          ·
           simp only [Act.put, sT, s0, sS, i64_w, i32_w]
           rfl
          refine pure_ (i := 14) (N := some 24) (v := ?_) (a' := ?_) #[true, true, true, true, true, true, true, true, true, true, true, true, true, true, true, false, false, false, false, false, false, false, false, false] rfl rfl (any_of HT_.out (by kernel_rfl)) (fun _ _ _ h => h) (Or.inl ⟨by rfl, ?_⟩) ?_ ?_
          rotate_left
          ·
           intro w'
           go_simp
           with_reducible rfl
          rotate_left
          ·
           simp only [Act.put, sT, s0, sS, i64_w, i32_w]
           rfl
          refine pure_ (i := 16) (N := some 26) (v := ?_) (a' := ?_) #[true, true, true, true, true, true, true, true, true, true, true, true, true, true, true, false, true, false, false, false, false, false, false, false] rfl rfl (any_of HT_.out (by kernel_rfl)) (fun _ _ _ h => h) (Or.inl ⟨by rfl, ?_⟩) ?_ ?_
          rotate_left
          ·
           intro w'
           go_simp
           with_reducible rfl
          rotate_left
          ·
           simp only [Act.put, sT, s0, sS, i64_w, i32_w]
           rfl
          refine pure_ (i := 17) (N := some 27) (v := ?_) (a' := ?_) #[true, true, true, true, true, true, true, true, true, true, true, true, true, true, true, false, true, true, false, false, false, false, false, false] rfl rfl (any_of HT_.out (by kernel_rfl)) (fun _ _ _ h => h) (Or.inl ⟨by rfl, ?_⟩) ?_ ?_
          rotate_left
          ·
           intro w'
           go_simp
           with_reducible rfl
          rotate_left
          ·
           simp only [Act.put, sT, s0, sS, i64_w, i32_w]
           rfl
          refine pure_ (i := 18) (N := some 28) (v := ?_) (a' := ?_) #[true, true, true, true, true, true, true, true, true, true, true, true, true, true, true, false, true, true, true, false, false, false, false, false] rfl rfl (any_of HT_.out (by kernel_rfl)) (fun _ _ _ h => h) (Or.inl ⟨by rfl, ?_⟩) ?_ ?_
          rotate_left
          ·
           intro w'
           go_simp
           with_reducible rfl
          rotate_left
          ·
           simp only [Act.put, sT, s0, sS, i64_w, i32_w]
           rfl
          refine pure_ (i := 19) (N := some 29) (v := ?_) (a' := ?_) #[true, true, true, true, true, true, true, true, true, true, true, true, true, true, true, false, true, true, true, true, false, false, false, false] rfl rfl (any_of HT_.out (by kernel_rfl)) (fun _ _ _ h => h) (Or.inl ⟨by rfl, ?_⟩) ?_ ?_
          rotate_left
          ·
           intro w'
           go_simp
           with_reducible rfl
          rotate_left
          ·
           simp only [Act.put, sT, s0, sS, i64_w, i32_w]
           rfl
          refine take_ (i := 15) (N := some 25) (v := ?_) (a' := ?_) #[true, true, true, true, true, true, true, true, true, true, true, true, true, true, true, true, true, true, true, true, false, false, false, false] rfl rfl (take_ofW HT_.out HW_.out (by kernel_rfl)) (fun _ _ _ h => h) (Or.inl ⟨by rfl, ?_⟩) hHeld ?_ ?_
          rotate_left
          ·
           rintro w' ⟨s0, s1, s2, s3, s4, s5, s6, s7, s8, s9, s10, s11, s12, s13, s14, s15, s16, s17, s18, s19, s20, s21, s22, s23, s24, s25, s26⟩
           go_simp
           with_reducible rfl
          rotate_left
          ·
           simp only [Act.put, sT, s0, sS, i64_w, i32_w]
           rfl
          refine take_ (i := 20) (N := some 30) (v := ?_) (a' := ?_) #[true, true, true, true, true, true, true, true, true, true, true, true, true, true, true, true, true, true, true, true, true, false, false, false] rfl rfl (take_ofW HT_.out HW_.out (by kernel_rfl)) (fun _ _ _ h => h) (Or.inl ⟨by rfl, ?_⟩) hHeld ?_ ?_
          rotate_left
          ·
           rintro w' ⟨s0, s1, s2, s3, s4, s5, s6, s7, s8, s9, s10, s11, s12, s13, s14, s15, s16, s17, s18, s19, s20, s21, s22, s23, s24, s25, s26⟩
           go_simp
           with_reducible rfl
          rotate_left
          ·
           simp only [Act.put, sT, s0, sS, i64_w, i32_w]
           rfl
          refine pure_ (i := 21) (N := some 31) (v := ?_) (a' := ?_) #[true, true, true, true, true, true, true, true, true, true, true, true, true, true, true, true, true, true, true, true, true, true, false, false] rfl rfl (any_of HT_.out (by kernel_rfl)) (fun _ _ _ h => h) (Or.inl ⟨by rfl, ?_⟩) ?_ ?_
          rotate_left
          ·
           intro w'
           go_simp
           with_reducible rfl
          rotate_left
          ·
           simp only [Act.put, sT, s0, sS, i64_w, i32_w]
           rfl
          refine pure_ (i := 22) (N := some 32) (v := ?_) (a' := ?_) #[true, true, true, true, true, true, true, true, true, true, true, true, true, true, true, true, true, true, true, true, true, true, true, false] rfl rfl (any_of HT_.out (by kernel_rfl)) (fun _ _ _ h => h) (Or.inl ⟨by rfl, ?_⟩) ?_ ?_
          rotate_left
          ·
           intro w'
           go_simp
           with_reducible rfl
          rotate_left
          ·
           simp only [Act.put, sT, s0, sS, i64_w, i32_w]
           rfl
          refine pure_ (i := 23) (N := some 33) (v := ?_) (a' := ?_) #[true, true, true, true, true, true, true, true, true, true, true, true, true, true, true, true, true, true, true, true, true, true, true, true] rfl rfl (any_of HT_.out (by kernel_rfl)) (fun _ _ _ h => h) (Or.inl ⟨by rfl, ?_⟩) ?_ ?_
          rotate_left
          ·
           intro w'
           go_simp
           with_reducible rfl
          rotate_left
          ·
           simp only [Act.put, sT, s0, sS, i64_w, i32_w]
           rfl
          refine done_ (done_of HT_.out (by kernel_rfl)) ?_
          try go_wp2
          go_ret
          exact ⟨by first | rfl | (simp [errW_none, errW_some] <;> rfl) | (simp only [← hji7]; first | rfl | (simp [errW_none, errW_some] <;> rfl)) | (simp [*, errW_none, errW_some] <;> rfl), by repeat (first | (with_reducible first | exact HB.out | apply lA | apply lN | apply lD) | exact HB.out)⟩
        ·
         rw [if_neg c9] at H
         exact absurd H (by simp)
       ·
        rw [if_neg c8] at H
        exact absurd H (by simp)
      ·
       rw [if_neg c6] at H
       have c6b0 : decide (0 < x3_1) = false := decide_eq_false c6
       clear c6
       have H' := Aside0.mk H
       clear H
       try go_wp2
       have n0_ := Aside0.mk (below_drew1 HB.out)
       clear HB
       have HB := n0_
       clear n0_
       have p115 : 0 ≤ (x3_1 : Int) := of_decide_eq_true (by with_reducible assumption)
       have q115 : x3_1 < (l0.length : Int) := of_decide_eq_true (by with_reducible assumption)
       obtain ⟨ad115, e115, hx115_0, hx115_1, hx115_2, hx115_3, hx115_4, hx115_5, hx115_6, hx115_7, hx115_8⟩ := at_T26 HR0.out x3_1 p115 q115
       have hw115_8 := hx115_8
       have hw115_7 := hx115_7
       have hw115_6 := hx115_6
       have hw115_5 := hx115_5
       have hw115_4 := hx115_4
       have hw115_3 := hx115_3
       have hw115_2 := hx115_2
       have hw115_1 := hx115_1
       have hw115_0 := hx115_0
       cases e115
       replace hx115_0 := cB HB.out hx115_0
       replace hx115_1 := cB HB.out hx115_1
       replace hx115_2 := cB HB.out hx115_2
       replace hx115_3 := cB HB.out hx115_3
       replace hx115_4 := cB HB.out hx115_4
       replace hx115_5 := cB HB.out hx115_5
       replace hx115_6 := cB HB.out hx115_6
       replace hx115_7 := cB HB.out hx115_7
       replace hx115_8 := cB HB.out hx115_8
       replace p115 := eq_true p115
       replace q115 := eq_true q115
       refine start_ (n := 24) (S := fun w' => w'.cell? (ad115.add ((x3_1).toNat * 9)) = some (.string ((rd_T26 l0 x3_1).f0)) ∧ w'.cell? ⟨(ad115.add ((x3_1).toNat * 9)).block, (ad115.add ((x3_1).toNat * 9)).off + 1, none⟩ = some (.int .i64 ((rd_T26 l0 x3_1).f1)) ∧ w'.cell? ⟨(ad115.add ((x3_1).toNat * 9)).block, (ad115.add ((x3_1).toNat * 9)).off + 2, none⟩ = some (.int .i64 ((rd_T26 l0 x3_1).f2)) ∧ w'.cell? ⟨(ad115.add ((x3_1).toNat * 9)).block, (ad115.add ((x3_1).toNat * 9)).off + 3, none⟩ = some (.int .i64 ((rd_T26 l0 x3_1).f3)) ∧ w'.cell? ⟨(ad115.add ((x3_1).toNat * 9)).block, (ad115.add ((x3_1).toNat * 9)).off + 4, none⟩ = some (.int .i64 ((rd_T26 l0 x3_1).f4)) ∧ w'.cell? ⟨(ad115.add ((x3_1).toNat * 9)).block, (ad115.add ((x3_1).toNat * 9)).off + 5, none⟩ = some (.int .i64 ((rd_T26 l0 x3_1).f5)) ∧ w'.cell? ⟨(ad115.add ((x3_1).toNat * 9)).block, (ad115.add ((x3_1).toNat * 9)).off + 6, none⟩ = some (.int .i64 ((rd_T26 l0 x3_1).f6)) ∧ w'.cell? ⟨(ad115.add ((x3_1).toNat * 9)).block, (ad115.add ((x3_1).toNat * 9)).off + 7, none⟩ = some (.int .i64 ((rd_T26 l0 x3_1).f7)) ∧ w'.cell? ⟨(ad115.add ((x3_1).toNat * 9)).block, (ad115.add ((x3_1).toNat * 9)).off + 8, none⟩ = some (.int .i64 ((rd_T26 l0 x3_1).f8))) (ds := []) #[false, false, false, false, false, false, false, false, false, false, false, false, false, false, false, false, false, false, false, false, false, false, false, false] (by kernel_rfl) rfl rfl ⟨((HB.out.cell (World.block_lt_of_cell? _ _ hw115_0)).trans hw115_0), ((HB.out.cell (World.block_lt_of_cell? _ _ hw115_1)).trans hw115_1), ((HB.out.cell (World.block_lt_of_cell? _ _ hw115_2)).trans hw115_2), ((HB.out.cell (World.block_lt_of_cell? _ _ hw115_3)).trans hw115_3), ((HB.out.cell (World.block_lt_of_cell? _ _ hw115_4)).trans hw115_4), ((HB.out.cell (World.block_lt_of_cell? _ _ hw115_5)).trans hw115_5), ((HB.out.cell (World.block_lt_of_cell? _ _ hw115_6)).trans hw115_6), ((HB.out.cell (World.block_lt_of_cell? _ _ hw115_7)).trans hw115_7), ((HB.out.cell (World.block_lt_of_cell? _ _ hw115_8)).trans hw115_8)⟩ (fun hHeld => ?_); refine with_tabW spec_AreArticles.tab4 spec_AreArticles.bits4 (fun HT_ HW_ => ?_)
       generalize wr.drew = w15 at HB hx115_0 hx115_1 hx115_2 hx115_3 hx115_4 hx115_5 hx115_6 hx115_7 hx115_8 hHeld ⊢
       refine pure_ (i := 0) (N := some 10) (v := ?_) (a' := ?_) #[true, false, false, false, false, false, false, false, false, false, false, false, false, false, false, false, false, false, false, false, false, false, false, false] rfl rfl (any_of HT_.out (by kernel_rfl)) (fun _ _ _ h => h) (Or.inl ⟨by rfl, ?_⟩) ?_ ?_
       rotate_left
       ·
        intro w'
        go_simp
        with_reducible rfl
       rotate_left
       ·
        simp only [Act.put, sT, s0, sS, i64_w, i32_w]
        rfl
       refine pure_ (i := 1) (N := some 11) (v := ?_) (a' := ?_) #[true, true, false, false, false, false, false, false, false, false, false, false, false, false, false, false, false, false, false, false, false, false, false, false] rfl rfl (any_of HT_.out (by kernel_rfl)) (fun _ _ _ h => h) (Or.inl ⟨by rfl, ?_⟩) ?_ ?_
       rotate_left
       ·
        intro w'
        go_simp
        with_reducible rfl
       rotate_left
       ·
        simp only [Act.put, sT, s0, sS, i64_w, i32_w]
        rfl
       refine pure_ (i := 2) (N := some 12) (v := ?_) (a' := ?_) #[true, true, true, false, false, false, false, false, false, false, false, false, false, false, false, false, false, false, false, false, false, false, false, false] rfl rfl (any_of HT_.out (by kernel_rfl)) (fun _ _ _ h => h) (Or.inl ⟨by rfl, ?_⟩) ?_ ?_
       rotate_left
       ·
        intro w'
        go_simp
        with_reducible rfl
       rotate_left
       ·
        simp only [Act.put, sT, s0, sS, i64_w, i32_w]
        rfl
       refine take_ (i := 3) (N := some 13) (v := ?_) (a' := ?_) #[true, true, true, true, false, false, false, false, false, false, false, false, false, false, false, false, false, false, false, false, false, false, false, false] rfl rfl (take_ofW HT_.out HW_.out (by kernel_rfl)) (fun _ _ _ h => h) (Or.inl ⟨by rfl, ?_⟩) hHeld ?_ ?_
       rotate_left
       ·
        rintro w' ⟨s0, s1, s2, s3, s4, s5, s6, s7, s8⟩
        go_simp
        with_reducible rfl
       rotate_left
       ·
        simp only [Act.put, sT, s0, sS, i64_w, i32_w]
        rfl
       refine one_ (i := 4) (N := some 14) #[true, true, true, true, true, false, false, false, false, false, false, false, false, false, false, false, false, false, false, false, false, false, false, false] rfl rfl (one_of HT_.out (by kernel_rfl)) (by decide) (fun K hK => ?_)
       refine goes_ Try.func16 (by kernel_rfl) rfl #[.agg #[.string ((rd_T26 l0 x3_1).f0), .int .i64 ((rd_T26 l0 x3_1).f1), .int .i64 ((rd_T26 l0 x3_1).f2), .int .i64 ((rd_T26 l0 x3_1).f3), .int .i64 ((rd_T26 l0 x3_1).f4), .int .i64 ((rd_T26 l0 x3_1).f5), .int .i64 ((rd_T26 l0 x3_1).f6), .int .i64 ((rd_T26 l0 x3_1).f7), .int .i64 ((rd_T26 l0 x3_1).f8)]] (by rfl) rfl rfl (by (try simp only [List.map_toArray, List.map_cons, List.map_nil]); first | done | rfl | (go_simp; done) | simp) ?_
       with_reducible refine (spec_IsArticle.calls k1 ((rd_T26 l0 x3_1).f0) ((rd_T26 l0 x3_1).f1) ((rd_T26 l0 x3_1).f2) ((rd_T26 l0 x3_1).f3) ((rd_T26 l0 x3_1).f4) ((rd_T26 l0 x3_1).f5) ((rd_T26 l0 x3_1).f6) ((rd_T26 l0 x3_1).f7) ((rd_T26 l0 x3_1).f8) true _ A4.out).mono ?_
       rintro e w16 ⟨rfl, hb⟩
       refine ⟨_, rfl, ?_⟩
       have n0_ := Aside0.mk (below_step (by repeat (first | (with_reducible first | exact HB.out | apply lA | apply lN | apply lD) | exact HB.out)) hb)
       clear HB
       have HB := n0_
       clear n0_
       (try clear hb)
       (try clear hb2)
       (try clear hk)
       (try clear hi)
       refine hK.out _ _ ⟨((HB.out.cell (World.block_lt_of_cell? _ _ hw115_0)).trans hw115_0), ((HB.out.cell (World.block_lt_of_cell? _ _ hw115_1)).trans hw115_1), ((HB.out.cell (World.block_lt_of_cell? _ _ hw115_2)).trans hw115_2), ((HB.out.cell (World.block_lt_of_cell? _ _ hw115_3)).trans hw115_3), ((HB.out.cell (World.block_lt_of_cell? _ _ hw115_4)).trans hw115_4), ((HB.out.cell (World.block_lt_of_cell? _ _ hw115_5)).trans hw115_5), ((HB.out.cell (World.block_lt_of_cell? _ _ hw115_6)).trans hw115_6), ((HB.out.cell (World.block_lt_of_cell? _ _ hw115_7)).trans hw115_7), ((HB.out.cell (World.block_lt_of_cell? _ _ hw115_8)).trans hw115_8)⟩ (fun hHeld => ?_)
       clear hK K
       refine norm_ (a' := ?_) ?_ ?_
       rotate_left
       ·
        show Act.put _ (some 14) _ = _
        simp only [Act.put, sT, s0, sS, i64_w, i32_w]
        rfl
       refine pure_ (i := 5) (N := some 15) (v := ?_) (a' := ?_) #[true, true, true, true, true, true, false, false, false, false, false, false, false, false, false, false, false, false, false, false, false, false, false, false] rfl rfl (any_of HT_.out (by kernel_rfl)) (fun _ _ _ h => h) (Or.inl ⟨by rfl, ?_⟩) ?_ ?_
       rotate_left
       ·
        intro w'
        go_simp
        with_reducible rfl
       rotate_left
       ·
        simp only [Act.put, sT, s0, sS, i64_w, i32_w]
        rfl
       refine pure_ (i := 6) (N := some 16) (v := ?_) (a' := ?_) #[true, true, true, true, true, true, true, false, false, false, false, false, false, false, false, false, false, false, false, false, false, false, false, false] rfl rfl (any_of HT_.out (by kernel_rfl)) (fun _ _ _ h => h) (Or.inl ⟨by rfl, ?_⟩) ?_ ?_
       rotate_left
       ·
        intro w'
        go_simp
        with_reducible rfl
       rotate_left
       ·
        simp only [Act.put, sT, s0, sS, i64_w, i32_w]
        rfl
       refine pure_ (i := 7) (N := some 17) (v := ?_) (a' := ?_) #[true, true, true, true, true, true, true, true, false, false, false, false, false, false, false, false, false, false, false, false, false, false, false, false] rfl rfl (any_of HT_.out (by kernel_rfl)) (fun _ _ _ h => h) (Or.inl ⟨by rfl, ?_⟩) ?_ ?_
       rotate_left
       ·
        intro w'
        go_simp
        with_reducible rfl
       rotate_left
       ·
        simp only [Act.put, sT, s0, sS, i64_w, i32_w]
        rfl
       refine pure_ (i := 8) (N := some 18) (v := ?_) (a' := ?_) #[true, true, true, true, true, true, true, true, true, false, false, false, false, false, false, false, false, false, false, false, false, false, false, false] rfl rfl (any_of HT_.out (by kernel_rfl)) (fun _ _ _ h => h) (Or.inl ⟨by rfl, ?_⟩) ?_ ?_
       rotate_left
       ·
        intro w'
        go_simp
        with_reducible rfl
       rotate_left
       ·
        simp only [Act.put, sT, s0, sS, i64_w, i32_w]
        rfl
       refine pure_ (i := 9) (N := some 19) (v := ?_) (a' := ?_) #[true, true, true, true, true, true, true, true, true, true, false, false, false, false, false, false, false, false, false, false, false, false, false, false] rfl rfl (any_of HT_.out (by kernel_rfl)) (fun _ _ _ h => h) (Or.inl ⟨by rfl, ?_⟩) ?_ ?_
       rotate_left
       ·
        intro w'
        go_simp
        with_reducible rfl
       rotate_left
       ·
        simp only [Act.put, sT, s0, sS, i64_w, i32_w]
        rfl
       refine pure_ (i := 10) (N := some 20) (v := undef) (a' := ?_) #[true, true, true, true, true, true, true, true, true, true, true, false, false, false, false, false, false, false, false, false, false, false, false, false] rfl rfl (any_of HT_.out (by kernel_rfl)) (fun _ _ _ h => h) (Or.inr ⟨by rfl, rfl⟩) ?_ ?_
       rotate_left
       ·
        simp only [Act.put, sT, s0, sS, i64_w, i32_w]
        rfl
       refine pure_ (i := 11) (N := some 21) (v := undef) (a' := ?_) #[true, true, true, true, true, true, true, true, true, true, true, true, false, false, false, false, false, false, false, false, false, false, false, false] rfl rfl (any_of HT_.out (by kernel_rfl)) (fun _ _ _ h => h) (Or.inr ⟨by rfl, rfl⟩) ?_ ?_
       rotate_left
       ·
        simp only [Act.put, sT, s0, sS, i64_w, i32_w]
        rfl
       refine pure_ (i := 12) (N := some 22) (v := undef) (a' := ?_) #[true, true, true, true, true, true, true, true, true, true, true, true, true, false, false, false, false, false, false, false, false, false, false, false] rfl rfl (any_of HT_.out (by kernel_rfl)) (fun _ _ _ h => h) (Or.inr ⟨by rfl, rfl⟩) ?_ ?_
       rotate_left
       ·
        simp only [Act.put, sT, s0, sS, i64_w, i32_w]
        rfl
       refine pure_ (i := 13) (N := some 23) (v := undef) (a' := ?_) #[true, true, true, true, true, true, true, true, true, true, true, true, true, true, false, false, false, false, false, false, false, false, false, false] rfl rfl (any_of HT_.out (by kernel_rfl)) (fun _ _ _ h => h) (Or.inr ⟨by rfl, rfl⟩) ?_ ?_
       rotate_left
       ·
        simp only [Act.put, sT, s0, sS, i64_w, i32_w]
        rfl
       refine pure_ (i := 14) (N := some 24) (v := undef) (a' := ?_) #[true, true, true, true, true, true, true, true, true, true, true, true, true, true, true, false, false, false, false, false, false, false, false, false] rfl rfl (any_of HT_.out (by kernel_rfl)) (fun _ _ _ h => h) (Or.inr ⟨by rfl, rfl⟩) ?_ ?_
       rotate_left
       ·
        simp only [Act.put, sT, s0, sS, i64_w, i32_w]
        rfl
       refine pure_ (i := 15) (N := some 25) (v := undef) (a' := ?_) #[true, true, true, true, true, true, true, true, true, true, true, true, true, true, true, true, false, false, false, false, false, false, false, false] rfl rfl (any_of HT_.out (by kernel_rfl)) (fun _ _ _ h => h) (Or.inr ⟨by rfl, rfl⟩) ?_ ?_
       rotate_left
       ·
        simp only [Act.put, sT, s0, sS, i64_w, i32_w]
        rfl
       refine pure_ (i := 16) (N := some 26) (v := undef) (a' := ?_) #[true, true, true, true, true, true, true, true, true, true, true, true, true, true, true, true, true, false, false, false, false, false, false, false] rfl rfl (any_of HT_.out (by kernel_rfl)) (fun _ _ _ h => h) (Or.inr ⟨by rfl, rfl⟩) ?_ ?_
       rotate_left
       ·
        simp only [Act.put, sT, s0, sS, i64_w, i32_w]
        rfl
       refine pure_ (i := 17) (N := some 27) (v := undef) (a' := ?_) #[true, true, true, true, true, true, true, true, true, true, true, true, true, true, true, true, true, true, false, false, false, false, false, false] rfl rfl (any_of HT_.out (by kernel_rfl)) (fun _ _ _ h => h) (Or.inr ⟨by rfl, rfl⟩) ?_ ?_
       rotate_left
       ·
        simp only [Act.put, sT, s0, sS, i64_w, i32_w]
        rfl
       refine pure_ (i := 18) (N := some 28) (v := undef) (a' := ?_) #[true, true, true, true, true, true, true, true, true, true, true, true, true, true, true, true, true, true, true, false, false, false, false, false] rfl rfl (any_of HT_.out (by kernel_rfl)) (fun _ _ _ h => h) (Or.inr ⟨by rfl, rfl⟩) ?_ ?_
       rotate_left
       ·
        simp only [Act.put, sT, s0, sS, i64_w, i32_w]
        rfl
       refine pure_ (i := 19) (N := some 29) (v := undef) (a' := ?_) #[true, true, true, true, true, true, true, true, true, true, true, true, true, true, true, true, true, true, true, true, false, false, false, false] rfl rfl (any_of HT_.out (by kernel_rfl)) (fun _ _ _ h => h) (Or.inr ⟨by rfl, rfl⟩) ?_ ?_
       rotate_left
       ·
        simp only [Act.put, sT, s0, sS, i64_w, i32_w]
        rfl
       refine pure_ (i := 20) (N := some 30) (v := undef) (a' := ?_) #[true, true, true, true, true, true, true, true, true, true, true, true, true, true, true, true, true, true, true, true, true, false, false, false] rfl rfl (any_of HT_.out (by kernel_rfl)) (fun _ _ _ h => h) (Or.inr ⟨by rfl, rfl⟩) ?_ ?_
       rotate_left
       ·
        simp only [Act.put, sT, s0, sS, i64_w, i32_w]
        rfl
       refine pure_ (i := 21) (N := some 31) (v := undef) (a' := ?_) #[true, true, true, true, true, true, true, true, true, true, true, true, true, true, true, true, true, true, true, true, true, true, false, false] rfl rfl (any_of HT_.out (by kernel_rfl)) (fun _ _ _ h => h) (Or.inr ⟨by rfl, rfl⟩) ?_ ?_
       rotate_left
       ·
        simp only [Act.put, sT, s0, sS, i64_w, i32_w]
        rfl
       refine pure_ (i := 22) (N := some 32) (v := ?_) (a' := ?_) #[true, true, true, true, true, true, true, true, true, true, true, true, true, true, true, true, true, true, true, true, true, true, true, false] rfl rfl (any_of HT_.out (by kernel_rfl)) (fun _ _ _ h => h) (Or.inl ⟨by rfl, ?_⟩) ?_ ?_
       rotate_left
       ·
        intro w'
        go_simp
        with_reducible rfl
       rotate_left
       ·
        simp only [Act.put, sT, s0, sS, i64_w, i32_w]
        rfl
       refine pure_ (i := 23) (N := some 33) (v := ?_) (a' := ?_) #[true, true, true, true, true, true, true, true, true, true, true, true, true, true, true, true, true, true, true, true, true, true, true, true] rfl rfl (any_of HT_.out (by kernel_rfl)) (fun _ _ _ h => h) (Or.inl ⟨by rfl, ?_⟩) ?_ ?_
       rotate_left
       ·
        intro w'
        go_simp
        with_reducible rfl
       rotate_left
       ·
        simp only [Act.put, sT, s0, sS, i64_w, i32_w]
        rfl
       refine done_ (done_of HT_.out (by kernel_rfl)) ?_
       try go_wp2
       go_roundg k1
       case measure => have := HK1.out; omega
       case rel => exact ⟨(wrap64 (x3_1 + 1)), (by first | rfl | (simp; done) | (simp [*]; done)), H', ⟨by have := HK1.out; omega⟩, ⟨by repeat (first | (with_reducible first | exact HB.out | apply lA | apply lN | apply lD) | exact HB.out)⟩⟩
     ·
      replace c5 := Bool.eq_false_iff.mpr c5
      subst c5
      have H1 : (some false) = some r := by rw [if_neg (show ¬ (false = true) by decide)] at H; exact H
      clear H
      have H := H1
      clear H1
      obtain rfl := Option.some.inj H
      simp only [Option.some.injEq, Prod.mk.injEq] at H
      obtain ⟨rfl⟩ := H
      try go_wp2
      have n0_ := Aside0.mk (below_drew1 HB.out)
      clear HB
      have HB := n0_
      clear n0_
      have p115 : 0 ≤ (x3_1 : Int) := of_decide_eq_true (by with_reducible assumption)
      have q115 : x3_1 < (l0.length : Int) := of_decide_eq_true (by with_reducible assumption)
      obtain ⟨ad115, e115, hx115_0, hx115_1, hx115_2, hx115_3, hx115_4, hx115_5, hx115_6, hx115_7, hx115_8⟩ := at_T26 HR0.out x3_1 p115 q115
      have hw115_8 := hx115_8
      have hw115_7 := hx115_7
      have hw115_6 := hx115_6
      have hw115_5 := hx115_5
      have hw115_4 := hx115_4
      have hw115_3 := hx115_3
      have hw115_2 := hx115_2
      have hw115_1 := hx115_1
      have hw115_0 := hx115_0
      cases e115
      replace hx115_0 := cB HB.out hx115_0
      replace hx115_1 := cB HB.out hx115_1
      replace hx115_2 := cB HB.out hx115_2
      replace hx115_3 := cB HB.out hx115_3
      replace hx115_4 := cB HB.out hx115_4
      replace hx115_5 := cB HB.out hx115_5
      replace hx115_6 := cB HB.out hx115_6
      replace hx115_7 := cB HB.out hx115_7
      replace hx115_8 := cB HB.out hx115_8
      replace p115 := eq_true p115
      replace q115 := eq_true q115
      refine start_ (n := 24) (S := fun w' => w'.cell? (ad115.add ((x3_1).toNat * 9)) = some (.string ((rd_T26 l0 x3_1).f0)) ∧ w'.cell? ⟨(ad115.add ((x3_1).toNat * 9)).block, (ad115.add ((x3_1).toNat * 9)).off + 1, none⟩ = some (.int .i64 ((rd_T26 l0 x3_1).f1)) ∧ w'.cell? ⟨(ad115.add ((x3_1).toNat * 9)).block, (ad115.add ((x3_1).toNat * 9)).off + 2, none⟩ = some (.int .i64 ((rd_T26 l0 x3_1).f2)) ∧ w'.cell? ⟨(ad115.add ((x3_1).toNat * 9)).block, (ad115.add ((x3_1).toNat * 9)).off + 3, none⟩ = some (.int .i64 ((rd_T26 l0 x3_1).f3)) ∧ w'.cell? ⟨(ad115.add ((x3_1).toNat * 9)).block, (ad115.add ((x3_1).toNat * 9)).off + 4, none⟩ = some (.int .i64 ((rd_T26 l0 x3_1).f4)) ∧ w'.cell? ⟨(ad115.add ((x3_1).toNat * 9)).block, (ad115.add ((x3_1).toNat * 9)).off + 5, none⟩ = some (.int .i64 ((rd_T26 l0 x3_1).f5)) ∧ w'.cell? ⟨(ad115.add ((x3_1).toNat * 9)).block, (ad115.add ((x3_1).toNat * 9)).off + 6, none⟩ = some (.int .i64 ((rd_T26 l0 x3_1).f6)) ∧ w'.cell? ⟨(ad115.add ((x3_1).toNat * 9)).block, (ad115.add ((x3_1).toNat * 9)).off + 7, none⟩ = some (.int .i64 ((rd_T26 l0 x3_1).f7)) ∧ w'.cell? ⟨(ad115.add ((x3_1).toNat * 9)).block, (ad115.add ((x3_1).toNat * 9)).off + 8, none⟩ = some (.int .i64 ((rd_T26 l0 x3_1).f8))) (ds := []) #[false, false, false, false, false, false, false, false, false, false, false, false, false, false, false, false, false, false, false, false, false, false, false, false] (by kernel_rfl) rfl rfl ⟨((HB.out.cell (World.block_lt_of_cell? _ _ hw115_0)).trans hw115_0), ((HB.out.cell (World.block_lt_of_cell? _ _ hw115_1)).trans hw115_1), ((HB.out.cell (World.block_lt_of_cell? _ _ hw115_2)).trans hw115_2), ((HB.out.cell (World.block_lt_of_cell? _ _ hw115_3)).trans hw115_3), ((HB.out.cell (World.block_lt_of_cell? _ _ hw115_4)).trans hw115_4), ((HB.out.cell (World.block_lt_of_cell? _ _ hw115_5)).trans hw115_5), ((HB.out.cell (World.block_lt_of_cell? _ _ hw115_6)).trans hw115_6), ((HB.out.cell (World.block_lt_of_cell? _ _ hw115_7)).trans hw115_7), ((HB.out.cell (World.block_lt_of_cell? _ _ hw115_8)).trans hw115_8)⟩ (fun hHeld => ?_); refine with_tabW spec_AreArticles.tab4 spec_AreArticles.bits4 (fun HT_ HW_ => ?_)
      generalize wr.drew = w17 at HB hx115_0 hx115_1 hx115_2 hx115_3 hx115_4 hx115_5 hx115_6 hx115_7 hx115_8 hHeld ⊢
      refine pure_ (i := 0) (N := some 10) (v := ?_) (a' := ?_) #[true, false, false, false, false, false, false, false, false, false, false, false, false, false, false, false, false, false, false, false, false, false, false, false] rfl rfl (any_of HT_.out (by kernel_rfl)) (fun _ _ _ h => h) (Or.inl ⟨by rfl, ?_⟩) ?_ ?_
      rotate_left
      ·
       intro w'
       go_simp
       with_reducible rfl
      rotate_left
      ·
       simp only [Act.put, sT, s0, sS, i64_w, i32_w]
       rfl
      refine pure_ (i := 1) (N := some 11) (v := ?_) (a' := ?_) #[true, true, false, false, false, false, false, false, false, false, false, false, false, false, false, false, false, false, false, false, false, false, false, false] rfl rfl (any_of HT_.out (by kernel_rfl)) (fun _ _ _ h => h) (Or.inl ⟨by rfl, ?_⟩) ?_ ?_
      rotate_left
      ·
       intro w'
       go_simp
       with_reducible rfl
      rotate_left
      ·
       simp only [Act.put, sT, s0, sS, i64_w, i32_w]
       rfl
      refine pure_ (i := 2) (N := some 12) (v := ?_) (a' := ?_) #[true, true, true, false, false, false, false, false, false, false, false, false, false, false, false, false, false, false, false, false, false, false, false, false] rfl rfl (any_of HT_.out (by kernel_rfl)) (fun _ _ _ h => h) (Or.inl ⟨by rfl, ?_⟩) ?_ ?_
      rotate_left
      ·
       intro w'
       go_simp
       with_reducible rfl
      rotate_left
      ·
       simp only [Act.put, sT, s0, sS, i64_w, i32_w]
       rfl
      refine take_ (i := 3) (N := some 13) (v := ?_) (a' := ?_) #[true, true, true, true, false, false, false, false, false, false, false, false, false, false, false, false, false, false, false, false, false, false, false, false] rfl rfl (take_ofW HT_.out HW_.out (by kernel_rfl)) (fun _ _ _ h => h) (Or.inl ⟨by rfl, ?_⟩) hHeld ?_ ?_
      rotate_left
      ·
       rintro w' ⟨s0, s1, s2, s3, s4, s5, s6, s7, s8⟩
       go_simp
       with_reducible rfl
      rotate_left
      ·
       simp only [Act.put, sT, s0, sS, i64_w, i32_w]
       rfl
      refine one_ (i := 4) (N := some 14) #[true, true, true, true, true, false, false, false, false, false, false, false, false, false, false, false, false, false, false, false, false, false, false, false] rfl rfl (one_of HT_.out (by kernel_rfl)) (by decide) (fun K hK => ?_)
      refine goes_ Try.func16 (by kernel_rfl) rfl #[.agg #[.string ((rd_T26 l0 x3_1).f0), .int .i64 ((rd_T26 l0 x3_1).f1), .int .i64 ((rd_T26 l0 x3_1).f2), .int .i64 ((rd_T26 l0 x3_1).f3), .int .i64 ((rd_T26 l0 x3_1).f4), .int .i64 ((rd_T26 l0 x3_1).f5), .int .i64 ((rd_T26 l0 x3_1).f6), .int .i64 ((rd_T26 l0 x3_1).f7), .int .i64 ((rd_T26 l0 x3_1).f8)]] (by rfl) rfl rfl (by (try simp only [List.map_toArray, List.map_cons, List.map_nil]); first | done | rfl | (go_simp; done) | simp) ?_
      with_reducible refine (spec_IsArticle.calls k1 ((rd_T26 l0 x3_1).f0) ((rd_T26 l0 x3_1).f1) ((rd_T26 l0 x3_1).f2) ((rd_T26 l0 x3_1).f3) ((rd_T26 l0 x3_1).f4) ((rd_T26 l0 x3_1).f5) ((rd_T26 l0 x3_1).f6) ((rd_T26 l0 x3_1).f7) ((rd_T26 l0 x3_1).f8) false _ A4.out).mono ?_
      rintro e w18 ⟨rfl, hb⟩
      refine ⟨_, rfl, ?_⟩
      have n0_ := Aside0.mk (below_step (by repeat (first | (with_reducible first | exact HB.out | apply lA | apply lN | apply lD) | exact HB.out)) hb)
      clear HB
      have HB := n0_
      clear n0_
      (try clear hb)
      (try clear hb2)
      (try clear hk)
      (try clear hi)
      refine hK.out _ _ ⟨((HB.out.cell (World.block_lt_of_cell? _ _ hw115_0)).trans hw115_0), ((HB.out.cell (World.block_lt_of_cell? _ _ hw115_1)).trans hw115_1), ((HB.out.cell (World.block_lt_of_cell? _ _ hw115_2)).trans hw115_2), ((HB.out.cell (World.block_lt_of_cell? _ _ hw115_3)).trans hw115_3), ((HB.out.cell (World.block_lt_of_cell? _ _ hw115_4)).trans hw115_4), ((HB.out.cell (World.block_lt_of_cell? _ _ hw115_5)).trans hw115_5), ((HB.out.cell (World.block_lt_of_cell? _ _ hw115_6)).trans hw115_6), ((HB.out.cell (World.block_lt_of_cell? _ _ hw115_7)).trans hw115_7), ((HB.out.cell (World.block_lt_of_cell? _ _ hw115_8)).trans hw115_8)⟩ (fun hHeld => ?_)
      clear hK K
      refine norm_ (a' := ?_) ?_ ?_
      rotate_left
      ·
       show Act.put _ (some 14) _ = _
       simp only [Act.put, sT, s0, sS, i64_w, i32_w]
       rfl
      refine pure_ (i := 5) (N := some 15) (v := ?_) (a' := ?_) #[true, true, true, true, true, true, false, false, false, false, false, false, false, false, false, false, false, false, false, false, false, false, false, false] rfl rfl (any_of HT_.out (by kernel_rfl)) (fun _ _ _ h => h) (Or.inl ⟨by rfl, ?_⟩) ?_ ?_
      rotate_left
      ·
       intro w'
       go_simp
       with_reducible rfl
      rotate_left
      ·
       simp only [Act.put, sT, s0, sS, i64_w, i32_w]
       rfl
      refine pure_ (i := 6) (N := some 16) (v := ?_) (a' := ?_) #[true, true, true, true, true, true, true, false, false, false, false, false, false, false, false, false, false, false, false, false, false, false, false, false] rfl rfl (any_of HT_.out (by kernel_rfl)) (fun _ _ _ h => h) (Or.inl ⟨by rfl, ?_⟩) ?_ ?_
      rotate_left
      ·
       intro w'
       go_simp
       with_reducible rfl
      rotate_left
      ·
       simp only [Act.put, sT, s0, sS, i64_w, i32_w]
       rfl
      refine pure_ (i := 7) (N := some 17) (v := undef) (a' := ?_) #[true, true, true, true, true, true, true, true, false, false, false, false, false, false, false, false, false, false, false, false, false, false, false, false] rfl rfl (any_of HT_.out (by kernel_rfl)) (fun _ _ _ h => h) (Or.inr ⟨by rfl, rfl⟩) ?_ ?_
      rotate_left
      ·
       simp only [Act.put, sT, s0, sS, i64_w, i32_w]
       rfl
      refine pure_ (i := 8) (N := some 18) (v := undef) (a' := ?_) #[true, true, true, true, true, true, true, true, true, false, false, false, false, false, false, false, false, false, false, false, false, false, false, false] rfl rfl (any_of HT_.out (by kernel_rfl)) (fun _ _ _ h => h) (Or.inr ⟨by rfl, rfl⟩) ?_ ?_
      rotate_left
      ·
       simp only [Act.put, sT, s0, sS, i64_w, i32_w]
       rfl
      refine pure_ (i := 9) (N := some 19) (v := undef) (a' := ?_) #[true, true, true, true, true, true, true, true, true, true, false, false, false, false, false, false, false, false, false, false, false, false, false, false] rfl rfl (any_of HT_.out (by kernel_rfl)) (fun _ _ _ h => h) (Or.inr ⟨by rfl, rfl⟩) ?_ ?_
      rotate_left
      ·
       simp only [Act.put, sT, s0, sS, i64_w, i32_w]
       rfl
      refine pure_ (i := 10) (N := some 20) (v := undef) (a' := ?_) #[true, true, true, true, true, true, true, true, true, true, true, false, false, false, false, false, false, false, false, false, false, false, false, false] rfl rfl (any_of HT_.out (by kernel_rfl)) (fun _ _ _ h => h) (Or.inr ⟨by rfl, rfl⟩) ?_ ?_
      rotate_left
      ·
       simp only [Act.put, sT, s0, sS, i64_w, i32_w]
       rfl
      refine pure_ (i := 11) (N := some 21) (v := undef) (a' := ?_) #[true, true, true, true, true, true, true, true, true, true, true, true, false, false, false, false, false, false, false, false, false, false, false, false] rfl rfl (any_of HT_.out (by kernel_rfl)) (fun _ _ _ h => h) (Or.inr ⟨by rfl, rfl⟩) ?_ ?_
      rotate_left
      ·
       simp only [Act.put, sT, s0, sS, i64_w, i32_w]
       rfl
      refine pure_ (i := 12) (N := some 22) (v := undef) (a' := ?_) #[true, true, true, true, true, true, true, true, true, true, true, true, true, false, false, false, false, false, false, false, false, false, false, false] rfl rfl (any_of HT_.out (by kernel_rfl)) (fun _ _ _ h => h) (Or.inr ⟨by rfl, rfl⟩) ?_ ?_
      rotate_left
      ·
       simp only [Act.put, sT, s0, sS, i64_w, i32_w]
       rfl
      refine pure_ (i := 13) (N := some 23) (v := undef) (a' := ?_) #[true, true, true, true, true, true, true, true, true, true, true, true, true, true, false, false, false, false, false, false, false, false, false, false] rfl rfl (any_of HT_.out (by kernel_rfl)) (fun _ _ _ h => h) (Or.inr ⟨by rfl, rfl⟩) ?_ ?_
      rotate_left
      ·
       simp only [Act.put, sT, s0, sS, i64_w, i32_w]
       rfl
      refine pure_ (i := 14) (N := some 24) (v := undef) (a' := ?_) #[true, true, true, true, true, true, true, true, true, true, true, true, true, true, true, false, false, false, false, false, false, false, false, false] rfl rfl (any_of HT_.out (by kernel_rfl)) (fun _ _ _ h => h) (Or.inr ⟨by rfl, rfl⟩) ?_ ?_
      rotate_left
      ·
       simp only [Act.put, sT, s0, sS, i64_w, i32_w]
       rfl
      refine pure_ (i := 15) (N := some 25) (v := undef) (a' := ?_) #[true, true, true, true, true, true, true, true, true, true, true, true, true, true, true, true, false, false, false, false, false, false, false, false] rfl rfl (any_of HT_.out (by kernel_rfl)) (fun _ _ _ h => h) (Or.inr ⟨by rfl, rfl⟩) ?_ ?_
      rotate_left
      ·
       simp only [Act.put, sT, s0, sS, i64_w, i32_w]
       rfl
      refine pure_ (i := 16) (N := some 26) (v := undef) (a' := ?_) #[true, true, true, true, true, true, true, true, true, true, true, true, true, true, true, true, true, false, false, false, false, false, false, false] rfl rfl (any_of HT_.out (by kernel_rfl)) (fun _ _ _ h => h) (Or.inr ⟨by rfl, rfl⟩) ?_ ?_
      rotate_left
      ·
       simp only [Act.put, sT, s0, sS, i64_w, i32_w]
       rfl
      refine pure_ (i := 17) (N := some 27) (v := undef) (a' := ?_) #[true, true, true, true, true, true, true, true, true, true, true, true, true, true, true, true, true, true, false, false, false, false, false, false] rfl rfl (any_of HT_.out (by kernel_rfl)) (fun _ _ _ h => h) (Or.inr ⟨by rfl, rfl⟩) ?_ ?_
      rotate_left
      ·
       simp only [Act.put, sT, s0, sS, i64_w, i32_w]
       rfl
      refine pure_ (i := 18) (N := some 28) (v := undef) (a' := ?_) #[true, true, true, true, true, true, true, true, true, true, true, true, true, true, true, true, true, true, true, false, false, false, false, false] rfl rfl (any_of HT_.out (by kernel_rfl)) (fun _ _ _ h => h) (Or.inr ⟨by rfl, rfl⟩) ?_ ?_
      rotate_left
      ·
       simp only [Act.put, sT, s0, sS, i64_w, i32_w]
       rfl
      refine pure_ (i := 19) (N := some 29) (v := undef) (a' := ?_) #[true, true, true, true, true, true, true, true, true, true, true, true, true, true, true, true, true, true, true, true, false, false, false, false] rfl rfl (any_of HT_.out (by kernel_rfl)) (fun _ _ _ h => h) (Or.inr ⟨by rfl, rfl⟩) ?_ ?_
      rotate_left
      ·
       simp only [Act.put, sT, s0, sS, i64_w, i32_w]
       rfl
      refine pure_ (i := 20) (N := some 30) (v := undef) (a' := ?_) #[true, true, true, true, true, true, true, true, true, true, true, true, true, true, true, true, true, true, true, true, true, false, false, false] rfl rfl (any_of HT_.out (by kernel_rfl)) (fun _ _ _ h => h) (Or.inr ⟨by rfl, rfl⟩) ?_ ?_
      rotate_left
      ·
       simp only [Act.put, sT, s0, sS, i64_w, i32_w]
       rfl
      refine pure_ (i := 21) (N := some 31) (v := undef) (a' := ?_) #[true, true, true, true, true, true, true, true, true, true, true, true, true, true, true, true, true, true, true, true, true, true, false, false] rfl rfl (any_of HT_.out (by kernel_rfl)) (fun _ _ _ h => h) (Or.inr ⟨by rfl, rfl⟩) ?_ ?_
      rotate_left
      ·
       simp only [Act.put, sT, s0, sS, i64_w, i32_w]
       rfl
      refine pure_ (i := 22) (N := some 32) (v := undef) (a' := ?_) #[true, true, true, true, true, true, true, true, true, true, true, true, true, true, true, true, true, true, true, true, true, true, true, false] rfl rfl (any_of HT_.out (by kernel_rfl)) (fun _ _ _ h => h) (Or.inr ⟨by rfl, rfl⟩) ?_ ?_
      rotate_left
      ·
       simp only [Act.put, sT, s0, sS, i64_w, i32_w]
       rfl
      refine pure_ (i := 23) (N := some 33) (v := ?_) (a' := ?_) #[true, true, true, true, true, true, true, true, true, true, true, true, true, true, true, true, true, true, true, true, true, true, true, true] rfl rfl (any_of HT_.out (by kernel_rfl)) (fun _ _ _ h => h) (Or.inl ⟨by rfl, ?_⟩) ?_ ?_
      rotate_left
      ·
       intro w'
       go_simp
       with_reducible rfl
      rotate_left
      ·
       simp only [Act.put, sT, s0, sS, i64_w, i32_w]
       rfl
      refine done_ (done_of HT_.out (by kernel_rfl)) ?_
      try go_wp2
      go_ret
      exact ⟨by first | rfl | (simp [errW_none, errW_some] <;> rfl) | (simp [*, errW_none, errW_some] <;> rfl), by repeat (first | (with_reducible first | exact HB.out | apply lA | apply lN | apply lD) | exact HB.out)⟩
    ·
     rw [if_neg c3] at H
     exact absurd H (by simp)
   ·
    rw [if_neg c2] at H
    have c2b0 : decide (x3_1 < (l0.length : Int)) = false := decide_eq_false c2
    clear c2
    obtain rfl := Option.some.inj H
    simp only [Option.some.injEq, Prod.mk.injEq] at H
    obtain ⟨rfl⟩ := H
    go_wp2
    go_ret
    exact ⟨by first | rfl | (simp [errW_none, errW_some] <;> rfl) | (simp [*, errW_none, errW_some] <;> rfl), by repeat (first | (with_reducible first | exact HB.out | apply lA | apply lN | apply lD) | exact HB.out)⟩

end Go.Proofs.Ytmepklccbogibaa.QFnExactMixedGroups
