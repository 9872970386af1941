-- Written by a program of this project's session, after the kit's print (a turned copy of its programs). Lean checks it.
import Derived.Test.YtmepklccbogibaaQFnExactMixedGroupsx0
import Derived.Test.YtmepklccbogibaaQFnExactMixedGroupsx6
import Derived.Test.YtmepklccbogibaaQFnExactMixedGroupsx7
namespace Go.Proofs.Ytmepklccbogibaa.QFnExactMixedGroups
open Go.RowKit Go.Proofs.YtmepklccbogibaaW.PrintWords Go.Proofs.YtmepklccbogibaaW.PrintLast Go.Proofs.YtmepklccbogibaaW.PrintMore
attribute [local go_sem] max2_int min2_int max_two min_two max_three min_three max_four min_four   -- for this text's walks alone
set_option linter.unusedVariables false
set_option linter.unusedSimpArgs false

/-! ### impl_MixedGroups: function 32 -/
def mgI1 : Nat → Bool → Bool → Bool → Bool → List Int → Int → Option (List Int)
  | 0, _, _, _, _, _, _ => none
  | k + 1, a, b, c, d, out, x => if x < 4 then (if x = 0 then (if a = true then (if out.length < 17592186044416 then mgI1 k a b c d (out ++ [0]) (wrap64 (0 + 1)) else none) else mgI1 k a b c d out (wrap64 (0 + 1))) else (if x = 1 then (if b = true then (if out.length < 17592186044416 then mgI1 k a b c d (out ++ [1]) (wrap64 (1 + 1)) else none) else mgI1 k a b c d out (wrap64 (1 + 1))) else (if x = 2 then (if c = true then (if out.length < 17592186044416 then mgI1 k a b c d (out ++ [2]) (wrap64 (2 + 1)) else none) else mgI1 k a b c d out (wrap64 (2 + 1))) else (if x = 3 then (if d = true then (if out.length < 17592186044416 then mgI1 k a b c d (out ++ [3]) (wrap64 (3 + 1)) else none) else mgI1 k a b c d out (wrap64 (3 + 1))) else none)))) else some out
def mgI0 : Nat → List S26 → List Int → Bool → Bool → Bool → Bool → Int → Option (List Int)
  | 0, _, _, _, _, _, _, _ => none
  | k + 1, l, m, a, b, c, d, i => if i < (l.length : Int) then (if 0 ≤ i ∧ i < (m.length : Int) then (if rd m i > 0 then (if (rd_T26 l i).f8 = 0 then mgI0 k l m true b c d (wrap64 (i + 1)) else (if (rd_T26 l i).f8 = 1 then mgI0 k l m a true c d (wrap64 (i + 1)) else (if (rd_T26 l i).f8 = 2 then mgI0 k l m a b true d (wrap64 (i + 1)) else (if (rd_T26 l i).f8 = 3 then mgI0 k l m a b c true (wrap64 (i + 1)) else none)))) else mgI0 k l m a b c d (wrap64 (i + 1))) else none) else mgI1 k a b c d [] 0
def impl_MixedGroups.f (k : Nat) (l0 : List S26) (l1 : List Int) : Option (List Int × Int) := (impl_AreArticles.f k l0).bind fun t => (if t = true then ((impl_areCounts.f k l0 l1).bind fun u => (if u = true then ((mgI0 k l0 l1 false false false false 0).bind fun y => (some (y, 0))) else (some (([] : List Int), 2)))) else (some (([] : List Int), 1)))
theorem mgI1_mono : ∀ k, ∀ a b c d out x, LeO (mgI1 k a b c d out x) (mgI1 (k + 1) a b c d out x)
  | 0 => fun _ _ _ _ _ _ r h => by simp [mgI1] at h
  | k + 1 => by
    have ih := mgI1_mono k
    intro a b c d out x
    unfold mgI1
    repeat' first
      | (with_reducible exact ih _ _ _ _ _ _)
      | (with_reducible exact LeO.refl _)
      | (with_reducible exact LeO.none _)
      | (with_reducible refine LeO.ite ?_ ?_)
      | (with_reducible refine LeO.bind ?_ (fun _ => ?_))
theorem mgI0_mono : ∀ k, ∀ l m a b c d i, LeO (mgI0 k l m a b c d i) (mgI0 (k + 1) l m a b c d i)
  | 0 => fun _ _ _ _ _ _ _ r h => by simp [mgI0] at h
  | k + 1 => by
    have ih := mgI0_mono k
    intro l m a b c d i
    unfold mgI0
    repeat' first
      | (with_reducible exact ih _ _ _ _ _ _ _)
      | (with_reducible exact mgI1_mono _ _ _ _ _ _ _)
      | (with_reducible exact LeO.refl _)
      | (with_reducible exact LeO.none _)
      | (with_reducible refine LeO.ite ?_ ?_)
      | (with_reducible refine LeO.bind ?_ (fun _ => ?_))
theorem impl_MixedGroups.mono : ∀ a0 a1 k, LeO (impl_MixedGroups.f k a0 a1) (impl_MixedGroups.f (k + 1) a0 a1) := by
  intro a0 a1 k
  unfold impl_MixedGroups.f
  repeat' first
      | (with_reducible exact mgI0_mono _ _ _ _ _ _ _ _)
      | (with_reducible exact impl_AreArticles.mono _ _)
      | (with_reducible exact impl_areCounts.mono _ _ _)
      | (with_reducible exact LeO.refl _)
      | (with_reducible exact LeO.none _)
      | (with_reducible refine LeO.ite ?_ ?_)
      | (with_reducible refine LeO.bind ?_ (fun _ => ?_))
theorem ix96_0 (w : World) (a b c d : Bool) : (Instr.index 96 (.agg #[.bool a, .bool b, .bool c, .bool d]) (.int .i64 0)).run Try.prog w = .ok (.bool a) w := by
  simp [Instr.index, run_underlying Try.underlying96, asIntOf, go_sem]
theorem ix96_1 (w : World) (a b c d : Bool) : (Instr.index 96 (.agg #[.bool a, .bool b, .bool c, .bool d]) (.int .i64 1)).run Try.prog w = .ok (.bool b) w := by
  simp [Instr.index, run_underlying Try.underlying96, asIntOf, go_sem]
theorem ix96_2 (w : World) (a b c d : Bool) : (Instr.index 96 (.agg #[.bool a, .bool b, .bool c, .bool d]) (.int .i64 2)).run Try.prog w = .ok (.bool c) w := by
  simp [Instr.index, run_underlying Try.underlying96, asIntOf, go_sem]
theorem ix96_3 (w : World) (a b c d : Bool) : (Instr.index 96 (.agg #[.bool a, .bool b, .bool c, .bool d]) (.int .i64 3)).run Try.prog w = .ok (.bool d) w := by
  simp [Instr.index, run_underlying Try.underlying96, asIntOf, go_sem]
attribute [local go_sem high] ix96_0 ix96_1 ix96_2 ix96_3
theorem mx_below {w w' : World} (h : Drawn0 w w') : Below w.heap.size w w' := by
  obtain ⟨n, rfl⟩ := h
  exact pw_below_drewN (Below.refl _ _) n
set_option maxHeartbeats 40000000 in
set_option maxRecDepth 100000 in
theorem impl_MixedGroups_ok (k : Nat) (A0 : Option Addr) (c0 : Nat) (l0 : List S26) (A1 : Option Addr) (c1 : Nat) (l1 : List Int) (r : List Int) (w : World) (hr0 : Kd.C k26 w A0 l0.length l0) (hc0 : l0.length ≤ c0) (hr1 : Kd.C (Kd.int .i64) w A1 l1.length l1) (hc1 : l1.length ≤ c1) (hA : impl_AreArticles.f k l0 = some true) (hC : impl_areCounts.f k l0 l1 = some true) (H0 : mgI0 k l0 l1 false false false false 0 = some r) :
    Calls Try.prog 32 #[.slice A0 l0.length c0, .slice A1 l1.length c1] w fun e w' => ∃ v0_ : Value, e = .returned (.tuple #[v0_, .int .i64 0]) ∧ Kd.R (Kd.int .i64) 2 w' w.heap.size (fun _ => True) v0_ r ∧ Below w.heap.size w w' := by
  have hu26 := Try.underlying26
  have hu96 := Try.underlying96
  have HR0 := Aside0.mk hr0
  have HC0 := Aside0.mk hc0
  have HR1 := Aside0.mk hr1
  have HC1 := Aside0.mk hc1
  have HB := Aside0.mk (Below.refl w.heap.size w)
  clear hr0 hc0 hr1 hc1
  have H' := Aside0.mk H0
  clear H0
  go_enter Try.func32, Try.ntmps32
  go_wp2_with (first | (go_at_call 45; (with_reducible refine (impl_AreArticles.calls k _ _ l0 true _ ?side1 ?side2 hA).mono ?_); (case side1 => repeat (first | exact (Kd.C_below HR0.out HB.out) | (with_reducible refine Kd.C_alloc ?_ _) | (with_reducible refine Kd.C_drewN ?_ _) | (with_reducible refine Kd.C_drew ?_))); (case side2 => exact HC0.out); rintro e w7 ⟨rfl, hb⟩; have n0_ := Aside0.mk (below_step (by repeat (first | (with_reducible first | exact HB.out | apply below_alloc | apply pw_below_drewN | apply below_drew1) | exact HB.out)) hb); clear HB; have HB := n0_; clear n0_ hb) | (go_at_call 80; (with_reducible refine (impl_areCounts.calls k _ _ l0 _ _ l1 true _ ?side1 ?side2 ?side3 ?side4 hC).mono ?_); (case side1 => repeat (first | exact (Kd.C_below HR0.out HB.out) | (with_reducible refine Kd.C_alloc ?_ _) | (with_reducible refine Kd.C_drewN ?_ _) | (with_reducible refine Kd.C_drew ?_))); (case side2 => exact HC0.out); (case side3 => repeat (first | exact (Kd.C_below HR1.out HB.out) | (with_reducible refine Kd.C_alloc ?_ _) | (with_reducible refine Kd.C_drewN ?_ _) | (with_reducible refine Kd.C_drew ?_))); (case side4 => exact HC1.out); rintro e w8 ⟨rfl, hd⟩; have hb := mx_below hd; clear hd; have n0_ := Aside0.mk (below_step (by repeat (first | (with_reducible first | exact HB.out | apply below_alloc | apply pw_below_drewN | apply below_drew1) | exact HB.out)) hb); clear HB; have HB := n0_; clear n0_ hb) | ((with_reducible refine gate_dst (N := 6) rfl ?_); refine box_event ?hg (N := 6) ?hd (cs := #[.bool false, .bool false, .bool false, .bool false]) (t := 96) ?hr ?_; (case hd => rfl); (case hg => rfl); (case hr => first | (go_simp; done) | (go_simp; rfl)); intro gh hg w9 hbox hb; have GEh := Aside0.mk ((by rw [hg]; exact (below_size (by repeat (first | (with_reducible first | exact HB.out | apply below_alloc | apply pw_below_drewN | apply below_drew1) | exact HB.out)))) : w.heap.size ≤ gh); have n0_ := Aside0.mk (below_step (by repeat (first | (with_reducible first | exact HB.out | apply below_alloc | apply pw_below_drewN | apply below_drew1) | exact HB.out)) hb); have BKh := Aside0.mk hbox; clear HB; have HB := n0_; clear n0_ hb hbox hg))
  go_loopg [21] k (fun kq v21 w' => ∃ (a b c d : Bool) (i : Int), v21 = .int .i64 i ∧ Aside0 (mgI0 kq l0 l1 a b c d i = some r) ∧ Aside0 (kq ≤ k) ∧ Aside0 (w'.heap[gh]? = some (.cells #[.bool a, .bool b, .bool c, .bool d] 96 (0, 0))) ∧ Aside0 (Below w.heap.size w w'))
  case atStart => exact ⟨false, false, false, false, 0, (by first | rfl | (simp; done) | (simp [*]; done)), H', ⟨Nat.le_refl _⟩, ⟨by (with_reducible repeat (first | refine blk_drewN ?_ _ | refine blk_drew ?_ | refine blk_alloc ?_ _)); exact BKh.out⟩, ⟨by repeat (first | (with_reducible first | exact HB.out | apply below_alloc | apply pw_below_drewN | apply below_drew1 | refine below_set ?_ GEh.out) | exact HB.out)⟩⟩
  case round =>
    clear H' HB BKh
    obtain ⟨a, b, c, d, i, rfl, HA, HK1, BKh, HB⟩ := hrel
    cases gk with
    | zero => exact absurd HA.out (by simp [mgI0])
    | succ k1 =>
      have H := HA.out
      clear HA
      simp only [mgI0] at H
      by_cases c1_ : i < (l0.length : Int)
      · rw [if_pos c1_] at H
        have c1b0 : decide (i < (l0.length : Int)) = true := decide_eq_true c1_
        by_cases c2_ : 0 ≤ i ∧ i < (l1.length : Int)
        · rw [if_pos c2_] at H
          obtain ⟨adl, el, hx_0, hx_1, hx_2, hx_3, hx_4, hx_5, hx_6, hx_7, hx_8⟩ := at_T26 HR0.out i c2_.1 c1_
          cases el
          obtain ⟨adc, ec, hy⟩ := Kd.at_int HR1.out i c2_.1 c2_.2
          cases ec
          replace hx_0 := (HB.out.cell (World.block_lt_of_cell? _ _ hx_0)).trans hx_0
          replace hx_1 := (HB.out.cell (World.block_lt_of_cell? _ _ hx_1)).trans hx_1
          replace hx_2 := (HB.out.cell (World.block_lt_of_cell? _ _ hx_2)).trans hx_2
          replace hx_3 := (HB.out.cell (World.block_lt_of_cell? _ _ hx_3)).trans hx_3
          replace hx_4 := (HB.out.cell (World.block_lt_of_cell? _ _ hx_4)).trans hx_4
          replace hx_5 := (HB.out.cell (World.block_lt_of_cell? _ _ hx_5)).trans hx_5
          replace hx_6 := (HB.out.cell (World.block_lt_of_cell? _ _ hx_6)).trans hx_6
          replace hx_7 := (HB.out.cell (World.block_lt_of_cell? _ _ hx_7)).trans hx_7
          replace hx_8 := (HB.out.cell (World.block_lt_of_cell? _ _ hx_8)).trans hx_8
          have pp := eq_true c2_.1
          have qq := eq_true c1_
          have qc := eq_true c2_.2
          have HY := Aside0.mk hy
          clear hy c1_ c2_
          have Hs := Aside0.mk H
          clear H
          go_upto_region 9 with (first | ((with_reducible refine gate_dst (N := 8) rfl ?_); refine box_event ?hg (N := 8) ?hd (cs := #[.string (⟨#[]⟩ : ByteArray), .int .i64 0, .int .i64 0, .int .i64 0, .int .i64 0, .int .i64 0, .int .i64 0, .int .i64 0, .int .i64 0]) (t := 26) ?hr ?_; (case hd => rfl); (case hg => rfl); (case hr => first | (go_simp; done) | (go_simp; rfl)); intro g8 hg w12 hbox hb; have GE8 := Aside0.mk ((by rw [hg]; exact (below_size (by repeat (first | (with_reducible first | exact HB.out | apply below_alloc | apply pw_below_drewN | apply below_drew1 | refine below_set ?_ GEh.out) | exact HB.out)))) : w.heap.size ≤ g8); have NBh8 := Aside0.mk ((by rw [hg]; exact Nat.ne_of_lt (blk_lt (g := gh) (o := .cells #[.bool a, .bool b, .bool c, .bool d] 96 (0, 0)) (by (with_reducible repeat (first | refine blk_drewN ?_ _ | refine blk_drew ?_ | refine blk_alloc ?_ _)); exact BKh.out))) : gh ≠ g8); have n1_ := Aside0.mk (blk_below (g := gh) (o := .cells #[.bool a, .bool b, .bool c, .bool d] 96 (0, 0)) (by (with_reducible repeat (first | refine blk_drewN ?_ _ | refine blk_drew ?_ | refine blk_alloc ?_ _)); exact BKh.out) hb); have n0_ := Aside0.mk (below_step (by repeat (first | (with_reducible first | exact HB.out | apply below_alloc | apply pw_below_drewN | apply below_drew1 | refine below_set ?_ GEh.out) | exact HB.out)) hb); have BK8 := Aside0.mk hbox; clear HB BKh; have HB := n0_; have BKh := n1_; clear n0_ n1_ hb hbox hg; have hcz_0 : w12.cell? ⟨g8, 0, none⟩ = some (.string (⟨#[]⟩ : ByteArray)) := (blk_cell BK8.out 0).trans rfl; have hcz_1 : w12.cell? ⟨g8, 1, none⟩ = some (.int .i64 0) := (blk_cell BK8.out 1).trans rfl; have hcz_2 : w12.cell? ⟨g8, 2, none⟩ = some (.int .i64 0) := (blk_cell BK8.out 2).trans rfl; have hcz_3 : w12.cell? ⟨g8, 3, none⟩ = some (.int .i64 0) := (blk_cell BK8.out 3).trans rfl; have hcz_4 : w12.cell? ⟨g8, 4, none⟩ = some (.int .i64 0) := (blk_cell BK8.out 4).trans rfl; have hcz_5 : w12.cell? ⟨g8, 5, none⟩ = some (.int .i64 0) := (blk_cell BK8.out 5).trans rfl; have hcz_6 : w12.cell? ⟨g8, 6, none⟩ = some (.int .i64 0) := (blk_cell BK8.out 6).trans rfl; have hcz_7 : w12.cell? ⟨g8, 7, none⟩ = some (.int .i64 0) := (blk_cell BK8.out 7).trans rfl; have hcz_8 : w12.cell? ⟨g8, 8, none⟩ = some (.int .i64 0) := (blk_cell BK8.out 8).trans rfl; have hfz_0 := blk_frozen BK8.out 0; have hfz_1 := blk_frozen BK8.out 1; have hfz_2 := blk_frozen BK8.out 2; have hfz_3 := blk_frozen BK8.out 3; have hfz_4 := blk_frozen BK8.out 4; have hfz_5 := blk_frozen BK8.out 5; have hfz_6 := blk_frozen BK8.out 6; have hfz_7 := blk_frozen BK8.out 7; have hfz_8 := blk_frozen BK8.out 8))
          have H := Hs.out
          clear Hs
          have n0_ : Aside0 ((((((((((w12.setCell ⟨g8, 0, none⟩ (.string ((rd_T26 l0 i).f0))).setCell ⟨g8, 1, none⟩ (.int .i64 ((rd_T26 l0 i).f1))).setCell ⟨g8, 2, none⟩ (.int .i64 ((rd_T26 l0 i).f2))).setCell ⟨g8, 3, none⟩ (.int .i64 ((rd_T26 l0 i).f3))).setCell ⟨g8, 4, none⟩ (.int .i64 ((rd_T26 l0 i).f4))).setCell ⟨g8, 5, none⟩ (.int .i64 ((rd_T26 l0 i).f5))).setCell ⟨g8, 6, none⟩ (.int .i64 ((rd_T26 l0 i).f6))).setCell ⟨g8, 7, none⟩ (.int .i64 ((rd_T26 l0 i).f7))).setCell ⟨g8, 8, none⟩ (.int .i64 ((rd_T26 l0 i).f8))).heap[g8]? = some (.cells #[.string ((rd_T26 l0 i).f0), .int .i64 ((rd_T26 l0 i).f1), .int .i64 ((rd_T26 l0 i).f2), .int .i64 ((rd_T26 l0 i).f3), .int .i64 ((rd_T26 l0 i).f4), .int .i64 ((rd_T26 l0 i).f5), .int .i64 ((rd_T26 l0 i).f6), .int .i64 ((rd_T26 l0 i).f7), .int .i64 ((rd_T26 l0 i).f8)] 26 (0, 0))) := ⟨by (with_reducible repeat (first | refine blk_drewN ?_ _ | refine blk_drew ?_ | refine blk_alloc ?_ _)); refine blk_put (cs := #[.string ((rd_T26 l0 i).f0), .int .i64 ((rd_T26 l0 i).f1), .int .i64 ((rd_T26 l0 i).f2), .int .i64 ((rd_T26 l0 i).f3), .int .i64 ((rd_T26 l0 i).f4), .int .i64 ((rd_T26 l0 i).f5), .int .i64 ((rd_T26 l0 i).f6), .int .i64 ((rd_T26 l0 i).f7), .int .i64 0]) ?_ 8 _ rfl; (with_reducible repeat (first | refine blk_drewN ?_ _ | refine blk_drew ?_ | refine blk_alloc ?_ _)); refine blk_put (cs := #[.string ((rd_T26 l0 i).f0), .int .i64 ((rd_T26 l0 i).f1), .int .i64 ((rd_T26 l0 i).f2), .int .i64 ((rd_T26 l0 i).f3), .int .i64 ((rd_T26 l0 i).f4), .int .i64 ((rd_T26 l0 i).f5), .int .i64 ((rd_T26 l0 i).f6), .int .i64 0, .int .i64 0]) ?_ 7 _ rfl; (with_reducible repeat (first | refine blk_drewN ?_ _ | refine blk_drew ?_ | refine blk_alloc ?_ _)); refine blk_put (cs := #[.string ((rd_T26 l0 i).f0), .int .i64 ((rd_T26 l0 i).f1), .int .i64 ((rd_T26 l0 i).f2), .int .i64 ((rd_T26 l0 i).f3), .int .i64 ((rd_T26 l0 i).f4), .int .i64 ((rd_T26 l0 i).f5), .int .i64 0, .int .i64 0, .int .i64 0]) ?_ 6 _ rfl; (with_reducible repeat (first | refine blk_drewN ?_ _ | refine blk_drew ?_ | refine blk_alloc ?_ _)); refine blk_put (cs := #[.string ((rd_T26 l0 i).f0), .int .i64 ((rd_T26 l0 i).f1), .int .i64 ((rd_T26 l0 i).f2), .int .i64 ((rd_T26 l0 i).f3), .int .i64 ((rd_T26 l0 i).f4), .int .i64 0, .int .i64 0, .int .i64 0, .int .i64 0]) ?_ 5 _ rfl; (with_reducible repeat (first | refine blk_drewN ?_ _ | refine blk_drew ?_ | refine blk_alloc ?_ _)); refine blk_put (cs := #[.string ((rd_T26 l0 i).f0), .int .i64 ((rd_T26 l0 i).f1), .int .i64 ((rd_T26 l0 i).f2), .int .i64 ((rd_T26 l0 i).f3), .int .i64 0, .int .i64 0, .int .i64 0, .int .i64 0, .int .i64 0]) ?_ 4 _ rfl; (with_reducible repeat (first | refine blk_drewN ?_ _ | refine blk_drew ?_ | refine blk_alloc ?_ _)); refine blk_put (cs := #[.string ((rd_T26 l0 i).f0), .int .i64 ((rd_T26 l0 i).f1), .int .i64 ((rd_T26 l0 i).f2), .int .i64 0, .int .i64 0, .int .i64 0, .int .i64 0, .int .i64 0, .int .i64 0]) ?_ 3 _ rfl; (with_reducible repeat (first | refine blk_drewN ?_ _ | refine blk_drew ?_ | refine blk_alloc ?_ _)); refine blk_put (cs := #[.string ((rd_T26 l0 i).f0), .int .i64 ((rd_T26 l0 i).f1), .int .i64 0, .int .i64 0, .int .i64 0, .int .i64 0, .int .i64 0, .int .i64 0, .int .i64 0]) ?_ 2 _ rfl; (with_reducible repeat (first | refine blk_drewN ?_ _ | refine blk_drew ?_ | refine blk_alloc ?_ _)); refine blk_put (cs := #[.string ((rd_T26 l0 i).f0), .int .i64 0, .int .i64 0, .int .i64 0, .int .i64 0, .int .i64 0, .int .i64 0, .int .i64 0, .int .i64 0]) ?_ 1 _ rfl; (with_reducible repeat (first | refine blk_drewN ?_ _ | refine blk_drew ?_ | refine blk_alloc ?_ _)); refine blk_put (cs := #[.string (⟨#[]⟩ : ByteArray), .int .i64 0, .int .i64 0, .int .i64 0, .int .i64 0, .int .i64 0, .int .i64 0, .int .i64 0, .int .i64 0]) ?_ 0 _ rfl; (with_reducible repeat (first | refine blk_drewN ?_ _ | refine blk_drew ?_ | refine blk_alloc ?_ _)); exact BK8.out⟩
          have n1_ : Aside0 ((((((((((w12.setCell ⟨g8, 0, none⟩ (.string ((rd_T26 l0 i).f0))).setCell ⟨g8, 1, none⟩ (.int .i64 ((rd_T26 l0 i).f1))).setCell ⟨g8, 2, none⟩ (.int .i64 ((rd_T26 l0 i).f2))).setCell ⟨g8, 3, none⟩ (.int .i64 ((rd_T26 l0 i).f3))).setCell ⟨g8, 4, none⟩ (.int .i64 ((rd_T26 l0 i).f4))).setCell ⟨g8, 5, none⟩ (.int .i64 ((rd_T26 l0 i).f5))).setCell ⟨g8, 6, none⟩ (.int .i64 ((rd_T26 l0 i).f6))).setCell ⟨g8, 7, none⟩ (.int .i64 ((rd_T26 l0 i).f7))).setCell ⟨g8, 8, none⟩ (.int .i64 ((rd_T26 l0 i).f8))).heap[gh]? = some (.cells #[.bool a, .bool b, .bool c, .bool d] 96 (0, 0))) := ⟨by (with_reducible repeat (first | refine blk_drewN ?_ _ | refine blk_drew ?_ | refine blk_alloc ?_ _)); refine blk_far ?_ NBh8.out _; (with_reducible repeat (first | refine blk_drewN ?_ _ | refine blk_drew ?_ | refine blk_alloc ?_ _)); refine blk_far ?_ NBh8.out _; (with_reducible repeat (first | refine blk_drewN ?_ _ | refine blk_drew ?_ | refine blk_alloc ?_ _)); refine blk_far ?_ NBh8.out _; (with_reducible repeat (first | refine blk_drewN ?_ _ | refine blk_drew ?_ | refine blk_alloc ?_ _)); refine blk_far ?_ NBh8.out _; (with_reducible repeat (first | refine blk_drewN ?_ _ | refine blk_drew ?_ | refine blk_alloc ?_ _)); refine blk_far ?_ NBh8.out _; (with_reducible repeat (first | refine blk_drewN ?_ _ | refine blk_drew ?_ | refine blk_alloc ?_ _)); refine blk_far ?_ NBh8.out _; (with_reducible repeat (first | refine blk_drewN ?_ _ | refine blk_drew ?_ | refine blk_alloc ?_ _)); refine blk_far ?_ NBh8.out _; (with_reducible repeat (first | refine blk_drewN ?_ _ | refine blk_drew ?_ | refine blk_alloc ?_ _)); refine blk_far ?_ NBh8.out _; (with_reducible repeat (first | refine blk_drewN ?_ _ | refine blk_drew ?_ | refine blk_alloc ?_ _)); refine blk_far ?_ NBh8.out _; (with_reducible repeat (first | refine blk_drewN ?_ _ | refine blk_drew ?_ | refine blk_alloc ?_ _)); exact BKh.out⟩
          have n2_ : Aside0 (Below w.heap.size w (((((((((w12.setCell ⟨g8, 0, none⟩ (.string ((rd_T26 l0 i).f0))).setCell ⟨g8, 1, none⟩ (.int .i64 ((rd_T26 l0 i).f1))).setCell ⟨g8, 2, none⟩ (.int .i64 ((rd_T26 l0 i).f2))).setCell ⟨g8, 3, none⟩ (.int .i64 ((rd_T26 l0 i).f3))).setCell ⟨g8, 4, none⟩ (.int .i64 ((rd_T26 l0 i).f4))).setCell ⟨g8, 5, none⟩ (.int .i64 ((rd_T26 l0 i).f5))).setCell ⟨g8, 6, none⟩ (.int .i64 ((rd_T26 l0 i).f6))).setCell ⟨g8, 7, none⟩ (.int .i64 ((rd_T26 l0 i).f7))).setCell ⟨g8, 8, none⟩ (.int .i64 ((rd_T26 l0 i).f8)))) := ⟨by repeat (first | (with_reducible first | exact HB.out | apply below_alloc | apply pw_below_drewN | apply below_drew1 | refine below_set ?_ GEh.out | refine below_set ?_ GE8.out) | exact HB.out)⟩
          clear BK8 BKh HB
          generalize (((((((((w12.setCell ⟨g8, 0, none⟩ (.string ((rd_T26 l0 i).f0))).setCell ⟨g8, 1, none⟩ (.int .i64 ((rd_T26 l0 i).f1))).setCell ⟨g8, 2, none⟩ (.int .i64 ((rd_T26 l0 i).f2))).setCell ⟨g8, 3, none⟩ (.int .i64 ((rd_T26 l0 i).f3))).setCell ⟨g8, 4, none⟩ (.int .i64 ((rd_T26 l0 i).f4))).setCell ⟨g8, 5, none⟩ (.int .i64 ((rd_T26 l0 i).f5))).setCell ⟨g8, 6, none⟩ (.int .i64 ((rd_T26 l0 i).f6))).setCell ⟨g8, 7, none⟩ (.int .i64 ((rd_T26 l0 i).f7))).setCell ⟨g8, 8, none⟩ (.int .i64 ((rd_T26 l0 i).f8))) = wq at n0_ n1_ n2_ ⊢
          have BK8 := n0_
          have BKh := n1_
          have HB := n2_
          clear n0_ n1_ n2_
          have hb8 : wq.cell? ⟨g8, 8, none⟩ = some (.int .i64 ((rd_T26 l0 i).f8)) := (blk_cell BK8.out 8).trans rfl
          have hf8 := blk_frozen BK8.out 8
          have hy := (HB.out.cell (World.block_lt_of_cell? _ _ HY.out)).trans HY.out
          clear HY
          by_cases c3 : rd l1 i > 0
          · rw [if_pos c3] at H
            have c3b0 : decide (0 < rd l1 i) = true := decide_eq_true c3
            clear c3
            by_cases g0 : (rd_T26 l0 i).f8 = 0
            · rw [if_pos g0] at H
              have H' := Aside0.mk H
              clear H
              rw [g0] at hb8
              have hq_0 : wq.cell? ⟨gh, 0, none⟩ = some (.bool a) := (blk_cell BKh.out 0).trans rfl
              have hq_1 : wq.cell? ⟨gh, 1, none⟩ = some (.bool b) := (blk_cell BKh.out 1).trans rfl
              have hq_2 : wq.cell? ⟨gh, 2, none⟩ = some (.bool c) := (blk_cell BKh.out 2).trans rfl
              have hq_3 : wq.cell? ⟨gh, 3, none⟩ = some (.bool d) := (blk_cell BKh.out 3).trans rfl
              have hr_0 := blk_frozen BKh.out 0
              have hr_1 := blk_frozen BKh.out 1
              have hr_2 := blk_frozen BKh.out 2
              have hr_3 := blk_frozen BKh.out 3
              go_wp2
              go_roundg k1
              case measure => have := HK1.out; omega
              case rel => exact ⟨true, b, c, d, (wrap64 (i + 1)), (by first | rfl | (simp; done) | (simp [*]; done)), H', ⟨by have := HK1.out; omega⟩, ⟨by (with_reducible repeat (first | refine blk_drewN ?_ _ | refine blk_drew ?_ | refine blk_alloc ?_ _)); refine blk_put (cs := #[.bool a, .bool b, .bool c, .bool d]) ?_ 0 _ rfl; (with_reducible repeat (first | refine blk_drewN ?_ _ | refine blk_drew ?_ | refine blk_alloc ?_ _)); exact BKh.out⟩, ⟨by repeat (first | (with_reducible first | exact HB.out | apply below_alloc | apply pw_below_drewN | apply below_drew1 | refine below_set ?_ GEh.out | refine below_set ?_ GE8.out) | exact HB.out)⟩⟩
            · rw [if_neg g0] at H
              by_cases g1 : (rd_T26 l0 i).f8 = 1
              · rw [if_pos g1] at H
                have H' := Aside0.mk H
                clear H
                rw [g1] at hb8
                have hq_0 : wq.cell? ⟨gh, 0, none⟩ = some (.bool a) := (blk_cell BKh.out 0).trans rfl
                have hq_1 : wq.cell? ⟨gh, 1, none⟩ = some (.bool b) := (blk_cell BKh.out 1).trans rfl
                have hq_2 : wq.cell? ⟨gh, 2, none⟩ = some (.bool c) := (blk_cell BKh.out 2).trans rfl
                have hq_3 : wq.cell? ⟨gh, 3, none⟩ = some (.bool d) := (blk_cell BKh.out 3).trans rfl
                have hr_0 := blk_frozen BKh.out 0
                have hr_1 := blk_frozen BKh.out 1
                have hr_2 := blk_frozen BKh.out 2
                have hr_3 := blk_frozen BKh.out 3
                go_wp2
                go_roundg k1
                case measure => have := HK1.out; omega
                case rel => exact ⟨a, true, c, d, (wrap64 (i + 1)), (by first | rfl | (simp; done) | (simp [*]; done)), H', ⟨by have := HK1.out; omega⟩, ⟨by (with_reducible repeat (first | refine blk_drewN ?_ _ | refine blk_drew ?_ | refine blk_alloc ?_ _)); refine blk_put (cs := #[.bool a, .bool b, .bool c, .bool d]) ?_ 1 _ rfl; (with_reducible repeat (first | refine blk_drewN ?_ _ | refine blk_drew ?_ | refine blk_alloc ?_ _)); exact BKh.out⟩, ⟨by repeat (first | (with_reducible first | exact HB.out | apply below_alloc | apply pw_below_drewN | apply below_drew1 | refine below_set ?_ GEh.out | refine below_set ?_ GE8.out) | exact HB.out)⟩⟩
              · rw [if_neg g1] at H
                by_cases g2 : (rd_T26 l0 i).f8 = 2
                · rw [if_pos g2] at H
                  have H' := Aside0.mk H
                  clear H
                  rw [g2] at hb8
                  have hq_0 : wq.cell? ⟨gh, 0, none⟩ = some (.bool a) := (blk_cell BKh.out 0).trans rfl
                  have hq_1 : wq.cell? ⟨gh, 1, none⟩ = some (.bool b) := (blk_cell BKh.out 1).trans rfl
                  have hq_2 : wq.cell? ⟨gh, 2, none⟩ = some (.bool c) := (blk_cell BKh.out 2).trans rfl
                  have hq_3 : wq.cell? ⟨gh, 3, none⟩ = some (.bool d) := (blk_cell BKh.out 3).trans rfl
                  have hr_0 := blk_frozen BKh.out 0
                  have hr_1 := blk_frozen BKh.out 1
                  have hr_2 := blk_frozen BKh.out 2
                  have hr_3 := blk_frozen BKh.out 3
                  go_wp2
                  go_roundg k1
                  case measure => have := HK1.out; omega
                  case rel => exact ⟨a, b, true, d, (wrap64 (i + 1)), (by first | rfl | (simp; done) | (simp [*]; done)), H', ⟨by have := HK1.out; omega⟩, ⟨by (with_reducible repeat (first | refine blk_drewN ?_ _ | refine blk_drew ?_ | refine blk_alloc ?_ _)); refine blk_put (cs := #[.bool a, .bool b, .bool c, .bool d]) ?_ 2 _ rfl; (with_reducible repeat (first | refine blk_drewN ?_ _ | refine blk_drew ?_ | refine blk_alloc ?_ _)); exact BKh.out⟩, ⟨by repeat (first | (with_reducible first | exact HB.out | apply below_alloc | apply pw_below_drewN | apply below_drew1 | refine below_set ?_ GEh.out | refine below_set ?_ GE8.out) | exact HB.out)⟩⟩
                · rw [if_neg g2] at H
                  by_cases g3 : (rd_T26 l0 i).f8 = 3
                  · rw [if_pos g3] at H
                    have H' := Aside0.mk H
                    clear H
                    rw [g3] at hb8
                    have hq_0 : wq.cell? ⟨gh, 0, none⟩ = some (.bool a) := (blk_cell BKh.out 0).trans rfl
                    have hq_1 : wq.cell? ⟨gh, 1, none⟩ = some (.bool b) := (blk_cell BKh.out 1).trans rfl
                    have hq_2 : wq.cell? ⟨gh, 2, none⟩ = some (.bool c) := (blk_cell BKh.out 2).trans rfl
                    have hq_3 : wq.cell? ⟨gh, 3, none⟩ = some (.bool d) := (blk_cell BKh.out 3).trans rfl
                    have hr_0 := blk_frozen BKh.out 0
                    have hr_1 := blk_frozen BKh.out 1
                    have hr_2 := blk_frozen BKh.out 2
                    have hr_3 := blk_frozen BKh.out 3
                    go_wp2
                    go_roundg k1
                    case measure => have := HK1.out; omega
                    case rel => exact ⟨a, b, c, true, (wrap64 (i + 1)), (by first | rfl | (simp; done) | (simp [*]; done)), H', ⟨by have := HK1.out; omega⟩, ⟨by (with_reducible repeat (first | refine blk_drewN ?_ _ | refine blk_drew ?_ | refine blk_alloc ?_ _)); refine blk_put (cs := #[.bool a, .bool b, .bool c, .bool d]) ?_ 3 _ rfl; (with_reducible repeat (first | refine blk_drewN ?_ _ | refine blk_drew ?_ | refine blk_alloc ?_ _)); exact BKh.out⟩, ⟨by repeat (first | (with_reducible first | exact HB.out | apply below_alloc | apply pw_below_drewN | apply below_drew1 | refine below_set ?_ GEh.out | refine below_set ?_ GE8.out) | exact HB.out)⟩⟩
                  · rw [if_neg g3] at H
                    exact absurd H (by simp)
          · rw [if_neg c3] at H
            have c3b0 : decide (0 < rd l1 i) = false := decide_eq_false c3
            clear c3
            have H' := Aside0.mk H
            clear H
            go_wp2
            go_roundg k1
            case measure => have := HK1.out; omega
            case rel => exact ⟨a, b, c, d, (wrap64 (i + 1)), (by first | rfl | (simp; done) | (simp [*]; done)), H', ⟨by have := HK1.out; omega⟩, ⟨by (with_reducible repeat (first | refine blk_drewN ?_ _ | refine blk_drew ?_ | refine blk_alloc ?_ _)); exact BKh.out⟩, ⟨by repeat (first | (with_reducible first | exact HB.out | apply below_alloc | apply pw_below_drewN | apply below_drew1 | refine below_set ?_ GEh.out | refine below_set ?_ GE8.out) | exact HB.out)⟩⟩
        · rw [if_neg c2_] at H
          exact absurd H (by simp)
      · rw [if_neg c1_] at H
        have c1b0 : decide (i < (l0.length : Int)) = false := decide_eq_false c1_
        clear c1_
        have H' := Aside0.mk H
        clear H
        have hq_0 := (blk_cell BKh.out 0)
        have hq_1 := (blk_cell BKh.out 1)
        have hq_2 := (blk_cell BKh.out 2)
        have hq_3 := (blk_cell BKh.out 3)
        have hr_0 := blk_frozen BKh.out 0
        have hr_1 := blk_frozen BKh.out 1
        have hr_2 := blk_frozen BKh.out 2
        have hr_3 := blk_frozen BKh.out 3
        go_wp2
        go_loopg [9, 36] k1 (fun kq v9 v36 w' => ∃ (out : List Int) (x : Int), v36 = .int .i64 x ∧ Aside0 (mgI1 kq a b c d out x = some r) ∧ Aside0 (kq ≤ k1) ∧ Aside0 (Kd.R (Kd.int .i64) 2 w' w.heap.size (fun _ => True) v9 out) ∧ Aside0 (Below w.heap.size w w'))
        case atStart => exact ⟨[], 0, (by first | rfl | (simp; done) | (simp [*]; done)), H', ⟨Nat.le_refl _⟩, ⟨Kd.R_nil _ _ _ _ _⟩, ⟨by repeat (first | (with_reducible first | exact HB.out | apply below_alloc | apply pw_below_drewN | apply below_drew1 | refine below_set ?_ GEh.out) | exact HB.out)⟩⟩
        case round =>
          clear H' HB
          obtain ⟨out, x, rfl, HA, HK2, HO, HB⟩ := hrel
          obtain ⟨A9, c9, e9⟩ := Kd.R_slice HO.out
          subst e9
          cases gk with
          | zero => exact absurd HA.out (by simp [mgI1])
          | succ k2 =>
            have H := HA.out
            clear HA
            simp only [mgI1] at H
            by_cases c4 : x < 4
            · rw [if_pos c4] at H
              clear c4
              by_cases g0 : x = 0
              · subst g0
                rw [if_pos rfl] at H
                cases ha : a with
                | true =>
                  subst ha
                  rw [if_pos rfl] at H
                  by_cases c5 : out.length < 17592186044416
                  · rw [if_pos c5] at H
                    have H' := Aside0.mk H
                    clear H
                    go_wp2_with (first | ((with_reducible refine gate_builtin (b := .append) (xs := #[.tmp 41, .tmp 43]) rfl ?_); at_builtin; refine Kd.R_append (Kd.int .i64) (w0 := w) w.heap.size rfl (.tmp 41) (.tmp 43) 40 2 (.int .i64 0) 8 rfl Try.underlying40 info2 rfl (by decide) (by omega) (.slice A9 out.length c9) out 0 [.int .i64 0] (fun _ => True) (fun _ => False) rfl rfl ?aP (fun _ hk => hk.elim) ?aF ?aO ?aB ?aS ?aL ?_; (case aP => exact rfl); (case aB => exact (by repeat (first | (with_reducible first | exact HB.out | apply below_alloc | apply pw_below_drewN | apply below_drew1) | exact HB.out))); (case aF => exact (fun _ _ => trivial)); (case aO => exact (by (with_reducible repeat (first | apply Kd.R_alloc | apply Kd.R_drewN | apply Kd.R_drew)); exact HO.out)); (case aS => exact (below_size (by repeat (first | (with_reducible first | exact HB.out | apply below_alloc | apply pw_below_drewN | apply below_drew1) | exact HB.out)))); (case aL => omega); intro v9 w13 ho hb hg hat; have n0_ := Aside0.mk hb; have n1_ := Aside0.mk ho; clear HB HO; have HB := n0_; have HO := n1_; clear n0_ n1_ ho hb hg hat))
                    go_roundg k2
                    case measure => have := HK2.out; omega
                    case rel => exact ⟨out ++ [0], (wrap64 (0 + 1)), (by first | rfl | (rw [show wrap64 (0 + 1) = 1 from by unfold wrap64; omega]; done) | (rw [show wrap64 (0 + 1) = 1 from by unfold wrap64; omega]; rfl)), H', ⟨by have := HK2.out; omega⟩, ⟨(by (with_reducible repeat (first | apply Kd.R_alloc | apply Kd.R_drewN | apply Kd.R_drew)); exact HO.out)⟩, ⟨by repeat (first | (with_reducible first | exact HB.out | apply below_alloc | apply pw_below_drewN | apply below_drew1) | exact HB.out)⟩⟩
                  · rw [if_neg c5] at H
                    exact absurd H (by simp)
                | false =>
                  subst ha
                  rw [if_neg (by decide)] at H
                  have H' := Aside0.mk H
                  clear H
                  go_wp2
                  go_roundg k2
                  case measure => have := HK2.out; omega
                  case rel => exact ⟨out, (wrap64 (0 + 1)), (by first | rfl | (rw [show wrap64 (0 + 1) = 1 from by unfold wrap64; omega]; done) | (rw [show wrap64 (0 + 1) = 1 from by unfold wrap64; omega]; rfl)), H', ⟨by have := HK2.out; omega⟩, ⟨(by (with_reducible repeat (first | apply Kd.R_alloc | apply Kd.R_drewN | apply Kd.R_drew)); exact HO.out)⟩, ⟨by repeat (first | (with_reducible first | exact HB.out | apply below_alloc | apply pw_below_drewN | apply below_drew1) | exact HB.out)⟩⟩
              · rw [if_neg g0] at H
                by_cases g1 : x = 1
                · subst g1
                  rw [if_pos rfl] at H
                  cases hb : b with
                  | true =>
                    subst hb
                    rw [if_pos rfl] at H
                    by_cases c5 : out.length < 17592186044416
                    · rw [if_pos c5] at H
                      have H' := Aside0.mk H
                      clear H
                      go_wp2_with (first | ((with_reducible refine gate_builtin (b := .append) (xs := #[.tmp 41, .tmp 43]) rfl ?_); at_builtin; refine Kd.R_append (Kd.int .i64) (w0 := w) w.heap.size rfl (.tmp 41) (.tmp 43) 40 2 (.int .i64 0) 8 rfl Try.underlying40 info2 rfl (by decide) (by omega) (.slice A9 out.length c9) out 1 [.int .i64 1] (fun _ => True) (fun _ => False) rfl rfl ?aP (fun _ hk => hk.elim) ?aF ?aO ?aB ?aS ?aL ?_; (case aP => exact rfl); (case aB => exact (by repeat (first | (with_reducible first | exact HB.out | apply below_alloc | apply pw_below_drewN | apply below_drew1) | exact HB.out))); (case aF => exact (fun _ _ => trivial)); (case aO => exact (by (with_reducible repeat (first | apply Kd.R_alloc | apply Kd.R_drewN | apply Kd.R_drew)); exact HO.out)); (case aS => exact (below_size (by repeat (first | (with_reducible first | exact HB.out | apply below_alloc | apply pw_below_drewN | apply below_drew1) | exact HB.out)))); (case aL => omega); intro v9 w13 ho hb hg hat; have n0_ := Aside0.mk hb; have n1_ := Aside0.mk ho; clear HB HO; have HB := n0_; have HO := n1_; clear n0_ n1_ ho hb hg hat))
                      go_roundg k2
                      case measure => have := HK2.out; omega
                      case rel => exact ⟨out ++ [1], (wrap64 (1 + 1)), (by first | rfl | (rw [show wrap64 (1 + 1) = 2 from by unfold wrap64; omega]; done) | (rw [show wrap64 (1 + 1) = 2 from by unfold wrap64; omega]; rfl)), H', ⟨by have := HK2.out; omega⟩, ⟨(by (with_reducible repeat (first | apply Kd.R_alloc | apply Kd.R_drewN | apply Kd.R_drew)); exact HO.out)⟩, ⟨by repeat (first | (with_reducible first | exact HB.out | apply below_alloc | apply pw_below_drewN | apply below_drew1) | exact HB.out)⟩⟩
                    · rw [if_neg c5] at H
                      exact absurd H (by simp)
                  | false =>
                    subst hb
                    rw [if_neg (by decide)] at H
                    have H' := Aside0.mk H
                    clear H
                    go_wp2
                    go_roundg k2
                    case measure => have := HK2.out; omega
                    case rel => exact ⟨out, (wrap64 (1 + 1)), (by first | rfl | (rw [show wrap64 (1 + 1) = 2 from by unfold wrap64; omega]; done) | (rw [show wrap64 (1 + 1) = 2 from by unfold wrap64; omega]; rfl)), H', ⟨by have := HK2.out; omega⟩, ⟨(by (with_reducible repeat (first | apply Kd.R_alloc | apply Kd.R_drewN | apply Kd.R_drew)); exact HO.out)⟩, ⟨by repeat (first | (with_reducible first | exact HB.out | apply below_alloc | apply pw_below_drewN | apply below_drew1) | exact HB.out)⟩⟩
                · rw [if_neg g1] at H
                  by_cases g2 : x = 2
                  · subst g2
                    rw [if_pos rfl] at H
                    cases hc : c with
                    | true =>
                      subst hc
                      rw [if_pos rfl] at H
                      by_cases c5 : out.length < 17592186044416
                      · rw [if_pos c5] at H
                        have H' := Aside0.mk H
                        clear H
                        go_wp2_with (first | ((with_reducible refine gate_builtin (b := .append) (xs := #[.tmp 41, .tmp 43]) rfl ?_); at_builtin; refine Kd.R_append (Kd.int .i64) (w0 := w) w.heap.size rfl (.tmp 41) (.tmp 43) 40 2 (.int .i64 0) 8 rfl Try.underlying40 info2 rfl (by decide) (by omega) (.slice A9 out.length c9) out 2 [.int .i64 2] (fun _ => True) (fun _ => False) rfl rfl ?aP (fun _ hk => hk.elim) ?aF ?aO ?aB ?aS ?aL ?_; (case aP => exact rfl); (case aB => exact (by repeat (first | (with_reducible first | exact HB.out | apply below_alloc | apply pw_below_drewN | apply below_drew1) | exact HB.out))); (case aF => exact (fun _ _ => trivial)); (case aO => exact (by (with_reducible repeat (first | apply Kd.R_alloc | apply Kd.R_drewN | apply Kd.R_drew)); exact HO.out)); (case aS => exact (below_size (by repeat (first | (with_reducible first | exact HB.out | apply below_alloc | apply pw_below_drewN | apply below_drew1) | exact HB.out)))); (case aL => omega); intro v9 w13 ho hb hg hat; have n0_ := Aside0.mk hb; have n1_ := Aside0.mk ho; clear HB HO; have HB := n0_; have HO := n1_; clear n0_ n1_ ho hb hg hat))
                        go_roundg k2
                        case measure => have := HK2.out; omega
                        case rel => exact ⟨out ++ [2], (wrap64 (2 + 1)), (by first | rfl | (rw [show wrap64 (2 + 1) = 3 from by unfold wrap64; omega]; done) | (rw [show wrap64 (2 + 1) = 3 from by unfold wrap64; omega]; rfl)), H', ⟨by have := HK2.out; omega⟩, ⟨(by (with_reducible repeat (first | apply Kd.R_alloc | apply Kd.R_drewN | apply Kd.R_drew)); exact HO.out)⟩, ⟨by repeat (first | (with_reducible first | exact HB.out | apply below_alloc | apply pw_below_drewN | apply below_drew1) | exact HB.out)⟩⟩
                      · rw [if_neg c5] at H
                        exact absurd H (by simp)
                    | false =>
                      subst hc
                      rw [if_neg (by decide)] at H
                      have H' := Aside0.mk H
                      clear H
                      go_wp2
                      go_roundg k2
                      case measure => have := HK2.out; omega
                      case rel => exact ⟨out, (wrap64 (2 + 1)), (by first | rfl | (rw [show wrap64 (2 + 1) = 3 from by unfold wrap64; omega]; done) | (rw [show wrap64 (2 + 1) = 3 from by unfold wrap64; omega]; rfl)), H', ⟨by have := HK2.out; omega⟩, ⟨(by (with_reducible repeat (first | apply Kd.R_alloc | apply Kd.R_drewN | apply Kd.R_drew)); exact HO.out)⟩, ⟨by repeat (first | (with_reducible first | exact HB.out | apply below_alloc | apply pw_below_drewN | apply below_drew1) | exact HB.out)⟩⟩
                  · rw [if_neg g2] at H
                    by_cases g3 : x = 3
                    · subst g3
                      rw [if_pos rfl] at H
                      cases hd : d with
                      | true =>
                        subst hd
                        rw [if_pos rfl] at H
                        by_cases c5 : out.length < 17592186044416
                        · rw [if_pos c5] at H
                          have H' := Aside0.mk H
                          clear H
                          go_wp2_with (first | ((with_reducible refine gate_builtin (b := .append) (xs := #[.tmp 41, .tmp 43]) rfl ?_); at_builtin; refine Kd.R_append (Kd.int .i64) (w0 := w) w.heap.size rfl (.tmp 41) (.tmp 43) 40 2 (.int .i64 0) 8 rfl Try.underlying40 info2 rfl (by decide) (by omega) (.slice A9 out.length c9) out 3 [.int .i64 3] (fun _ => True) (fun _ => False) rfl rfl ?aP (fun _ hk => hk.elim) ?aF ?aO ?aB ?aS ?aL ?_; (case aP => exact rfl); (case aB => exact (by repeat (first | (with_reducible first | exact HB.out | apply below_alloc | apply pw_below_drewN | apply below_drew1) | exact HB.out))); (case aF => exact (fun _ _ => trivial)); (case aO => exact (by (with_reducible repeat (first | apply Kd.R_alloc | apply Kd.R_drewN | apply Kd.R_drew)); exact HO.out)); (case aS => exact (below_size (by repeat (first | (with_reducible first | exact HB.out | apply below_alloc | apply pw_below_drewN | apply below_drew1) | exact HB.out)))); (case aL => omega); intro v9 w13 ho hb hg hat; have n0_ := Aside0.mk hb; have n1_ := Aside0.mk ho; clear HB HO; have HB := n0_; have HO := n1_; clear n0_ n1_ ho hb hg hat))
                          go_roundg k2
                          case measure => have := HK2.out; omega
                          case rel => exact ⟨out ++ [3], (wrap64 (3 + 1)), (by first | rfl | (rw [show wrap64 (3 + 1) = 4 from by unfold wrap64; omega]; done) | (rw [show wrap64 (3 + 1) = 4 from by unfold wrap64; omega]; rfl)), H', ⟨by have := HK2.out; omega⟩, ⟨(by (with_reducible repeat (first | apply Kd.R_alloc | apply Kd.R_drewN | apply Kd.R_drew)); exact HO.out)⟩, ⟨by repeat (first | (with_reducible first | exact HB.out | apply below_alloc | apply pw_below_drewN | apply below_drew1) | exact HB.out)⟩⟩
                        · rw [if_neg c5] at H
                          exact absurd H (by simp)
                      | false =>
                        subst hd
                        rw [if_neg (by decide)] at H
                        have H' := Aside0.mk H
                        clear H
                        go_wp2
                        go_roundg k2
                        case measure => have := HK2.out; omega
                        case rel => exact ⟨out, (wrap64 (3 + 1)), (by first | rfl | (rw [show wrap64 (3 + 1) = 4 from by unfold wrap64; omega]; done) | (rw [show wrap64 (3 + 1) = 4 from by unfold wrap64; omega]; rfl)), H', ⟨by have := HK2.out; omega⟩, ⟨(by (with_reducible repeat (first | apply Kd.R_alloc | apply Kd.R_drewN | apply Kd.R_drew)); exact HO.out)⟩, ⟨by repeat (first | (with_reducible first | exact HB.out | apply below_alloc | apply pw_below_drewN | apply below_drew1) | exact HB.out)⟩⟩
                    · rw [if_neg g3] at H
                      exact absurd H (by simp)
            · rw [if_neg c4] at H
              have c4b0 : decide (x < 4) = false := decide_eq_false c4
              clear c4
              obtain rfl := Option.some.inj H
              go_wp2
              go_ret2
              exact ⟨_, by first | rfl | (simp; done) | (simp [*]; done), (by (with_reducible repeat (first | apply Kd.R_alloc | apply Kd.R_drewN | apply Kd.R_drew)); exact HO.out), by repeat (first | (with_reducible first | exact HB.out | apply below_alloc | apply pw_below_drewN | apply below_drew1) | exact HB.out)⟩
set_option maxHeartbeats 40000000 in
set_option maxRecDepth 100000 in
theorem impl_MixedGroups_no1 (k : Nat) (A0 : Option Addr) (c0 : Nat) (l0 : List S26) (A1 : Option Addr) (c1 : Nat) (l1 : List Int) (w : World) (hr0 : Kd.C k26 w A0 l0.length l0) (hc0 : l0.length ≤ c0) (hr1 : Kd.C (Kd.int .i64) w A1 l1.length l1) (hc1 : l1.length ≤ c1) (hA : impl_AreArticles.f k l0 = some false) :
    Calls Try.prog 32 #[.slice A0 l0.length c0, .slice A1 l1.length c1] w fun e w' => ∃ v0_ : Value, e = .returned (.tuple #[v0_, .int .i64 1]) ∧ Kd.R (Kd.int .i64) 2 w' w.heap.size (fun _ => True) v0_ ([] : List Int) ∧ Below w.heap.size w w' := by
  have hu26 := Try.underlying26
  have hu96 := Try.underlying96
  have HR0 := Aside0.mk hr0
  have HC0 := Aside0.mk hc0
  have HR1 := Aside0.mk hr1
  have HC1 := Aside0.mk hc1
  have HB := Aside0.mk (Below.refl w.heap.size w)
  clear hr0 hc0 hr1 hc1
  go_enter Try.func32, Try.ntmps32
  go_wp2_with (first | (go_at_call 45; (with_reducible refine (impl_AreArticles.calls k _ _ l0 false _ ?side1 ?side2 hA).mono ?_); (case side1 => repeat (first | exact (Kd.C_below HR0.out HB.out) | (with_reducible refine Kd.C_alloc ?_ _) | (with_reducible refine Kd.C_drewN ?_ _) | (with_reducible refine Kd.C_drew ?_))); (case side2 => exact HC0.out); rintro e w7 ⟨rfl, hb⟩; have n0_ := Aside0.mk (below_step (by repeat (first | (with_reducible first | exact HB.out | apply below_alloc | apply pw_below_drewN | apply below_drew1) | exact HB.out)) hb); clear HB; have HB := n0_; clear n0_ hb))
  go_ret2
  exact ⟨_, by first | rfl | (simp; done) | (simp [*]; done), Kd.R_nil _ _ _ _ _, by repeat (first | (with_reducible first | exact HB.out | apply below_alloc | apply pw_below_drewN | apply below_drew1) | exact HB.out)⟩
set_option maxHeartbeats 40000000 in
set_option maxRecDepth 100000 in
theorem impl_MixedGroups_no2 (k : Nat) (A0 : Option Addr) (c0 : Nat) (l0 : List S26) (A1 : Option Addr) (c1 : Nat) (l1 : List Int) (w : World) (hr0 : Kd.C k26 w A0 l0.length l0) (hc0 : l0.length ≤ c0) (hr1 : Kd.C (Kd.int .i64) w A1 l1.length l1) (hc1 : l1.length ≤ c1) (hA : impl_AreArticles.f k l0 = some true) (hC : impl_areCounts.f k l0 l1 = some false) :
    Calls Try.prog 32 #[.slice A0 l0.length c0, .slice A1 l1.length c1] w fun e w' => ∃ v0_ : Value, e = .returned (.tuple #[v0_, .int .i64 2]) ∧ Kd.R (Kd.int .i64) 2 w' w.heap.size (fun _ => True) v0_ ([] : List Int) ∧ Below w.heap.size w w' := by
  have hu26 := Try.underlying26
  have hu96 := Try.underlying96
  have HR0 := Aside0.mk hr0
  have HC0 := Aside0.mk hc0
  have HR1 := Aside0.mk hr1
  have HC1 := Aside0.mk hc1
  have HB := Aside0.mk (Below.refl w.heap.size w)
  clear hr0 hc0 hr1 hc1
  go_enter Try.func32, Try.ntmps32
  go_wp2_with (first | (go_at_call 45; (with_reducible refine (impl_AreArticles.calls k _ _ l0 true _ ?side1 ?side2 hA).mono ?_); (case side1 => repeat (first | exact (Kd.C_below HR0.out HB.out) | (with_reducible refine Kd.C_alloc ?_ _) | (with_reducible refine Kd.C_drewN ?_ _) | (with_reducible refine Kd.C_drew ?_))); (case side2 => exact HC0.out); rintro e w7 ⟨rfl, hb⟩; have n0_ := Aside0.mk (below_step (by repeat (first | (with_reducible first | exact HB.out | apply below_alloc | apply pw_below_drewN | apply below_drew1) | exact HB.out)) hb); clear HB; have HB := n0_; clear n0_ hb) | (go_at_call 80; (with_reducible refine (impl_areCounts.calls k _ _ l0 _ _ l1 false _ ?side1 ?side2 ?side3 ?side4 hC).mono ?_); (case side1 => repeat (first | exact (Kd.C_below HR0.out HB.out) | (with_reducible refine Kd.C_alloc ?_ _) | (with_reducible refine Kd.C_drewN ?_ _) | (with_reducible refine Kd.C_drew ?_))); (case side2 => exact HC0.out); (case side3 => repeat (first | exact (Kd.C_below HR1.out HB.out) | (with_reducible refine Kd.C_alloc ?_ _) | (with_reducible refine Kd.C_drewN ?_ _) | (with_reducible refine Kd.C_drew ?_))); (case side4 => exact HC1.out); rintro e w8 ⟨rfl, hd⟩; have hb := mx_below hd; clear hd; have n0_ := Aside0.mk (below_step (by repeat (first | (with_reducible first | exact HB.out | apply below_alloc | apply pw_below_drewN | apply below_drew1) | exact HB.out)) hb); clear HB; have HB := n0_; clear n0_ hb))
  go_ret2
  exact ⟨_, by first | rfl | (simp; done) | (simp [*]; done), Kd.R_nil _ _ _ _ _, by repeat (first | (with_reducible first | exact HB.out | apply below_alloc | apply pw_below_drewN | apply below_drew1) | exact HB.out)⟩
theorem impl_MixedGroups.calls (k : Nat) (A0 : Option Addr) (c0 : Nat) (l0 : List S26) (A1 : Option Addr) (c1 : Nat) (l1 : List Int) (r1 : List Int) (r2 : Int) (w : World) (hr0 : Kd.C k26 w A0 l0.length l0) (hc0 : l0.length ≤ c0) (hr1 : Kd.C (Kd.int .i64) w A1 l1.length l1) (hc1 : l1.length ≤ c1) (h : impl_MixedGroups.f k l0 l1 = some (r1, r2)) :
    Calls Try.prog 32 #[.slice A0 l0.length c0, .slice A1 l1.length c1] w fun e w' => ∃ v0_ : Value, e = .returned (.tuple #[v0_, .int .i64 r2]) ∧ Kd.R (Kd.int .i64) 2 w' w.heap.size (fun _ => True) v0_ r1 ∧ Below w.heap.size w w' := by
  obtain ⟨t, ht, h⟩ := Option.bind_eq_some_iff.mp h
  cases t with
  | false =>
    simp only [Bool.false_eq_true, if_false, Option.some.injEq, Prod.mk.injEq] at h
    obtain ⟨rfl, rfl⟩ := h
    exact impl_MixedGroups_no1 k A0 c0 l0 A1 c1 l1 w hr0 hc0 hr1 hc1 ht
  | true =>
    rw [if_pos rfl] at h
    obtain ⟨u, hu, h⟩ := Option.bind_eq_some_iff.mp h
    cases u with
    | false =>
      simp only [Bool.false_eq_true, if_false, Option.some.injEq, Prod.mk.injEq] at h
      obtain ⟨rfl, rfl⟩ := h
      exact impl_MixedGroups_no2 k A0 c0 l0 A1 c1 l1 w hr0 hc0 hr1 hc1 ht hu
    | true =>
      rw [if_pos rfl] at h
      obtain ⟨y, hy, h⟩ := Option.bind_eq_some_iff.mp h
      simp only [Option.some.injEq, Prod.mk.injEq] at h
      obtain ⟨rfl, rfl⟩ := h
      exact impl_MixedGroups_ok k A0 c0 l0 A1 c1 l1 y w hr0 hc0 hr1 hc1 ht hu hy


end Go.Proofs.Ytmepklccbogibaa.QFnExactMixedGroups
