-- Written by a program of this project's session, after the kit's print (a turned copy of its programs). Lean checks it.
import Derived.Test.YtidibjmckgbpbaaQFnExactWidenWindx0
import Derived.Test.YtidibjmckgbpbaaQFnExactWidenWindx5
namespace Go.Proofs.Ytidibjmckgbpbaa.QFnExactWidenWind
open Go.RowKit Go.Proofs.YtidibjmckgbpbaaW.PrintWords Go.Proofs.YtidibjmckgbpbaaW.PrintLast Go.Proofs.YtidibjmckgbpbaaW.PrintMore
attribute [local go_sem] max2_int min2_int max_two min_two max_three min_three max_four min_four   -- for this text's walks alone
set_option linter.unusedVariables false
set_option linter.unusedSimpArgs false

/-! ### impl_layerOf: function 60 -/
def impl_layerOf.l0 : Nat → Int → List (S55) → Int → Int → Option (Int)
  | 0, _, _, _, _ => none
  | k + 1, x1, x7, x8, x9 => if x9 < x8 then (if 0 ≤ x9 then (if x9 < (x7.length : Int) then (if x1 ≤ ((rd_T55 x7 x9).f0) then (some x9) else (impl_layerOf.l0 k x1 x7 x8 (wrap64 (x9 + 1)))) else (none)) else (none)) else (some (-1))
def impl_layerOf.f (k : Nat) (l0 : List (S55)) (a1 : Int) : Option (Int) := impl_layerOf.l0 k a1 l0 (l0.length : Int) 0
theorem impl_layerOf.mono_l : ∀ k, (∀ y0 y1 y2 y3, LeO (impl_layerOf.l0 k y0 y1 y2 y3) (impl_layerOf.l0 (k + 1) y0 y1 y2 y3))
  | 0 => fun _ _ _ _ r h => by simp [impl_layerOf.l0] at h
  | k + 1 => by
    have ih0 := impl_layerOf.mono_l k
    · intro y0 y1 y2 y3
      unfold impl_layerOf.l0
      repeat' first
      | (with_reducible exact ih0 _ _ _ _)
      | (with_reducible exact LeO.refl _)
      | (with_reducible exact LeO.none _)
      | (with_reducible refine LeO.ite ?_ ?_)
      | (with_reducible refine LeO.bind ?_ (fun _ => ?_))
      | exact ih0 _ _ _ _
      | exact LeO.none _
      | refine LeO.ite ?_ ?_
      | refine LeO.bind ?_ (fun _ => ?_)
theorem impl_layerOf.mono : ∀ a0 a1 k, LeO (impl_layerOf.f k a0 a1) (impl_layerOf.f (k + 1) a0 a1) := by
  intro a0 a1 k
  have ih0 := impl_layerOf.mono_l k
  unfold impl_layerOf.f
  repeat' first
      | (with_reducible exact ih0 _ _ _ _)
      | (with_reducible exact LeO.refl _)
      | (with_reducible exact LeO.none _)
      | (with_reducible refine LeO.ite ?_ ?_)
      | (with_reducible refine LeO.bind ?_ (fun _ => ?_))
      | exact ih0 _ _ _ _
      | exact LeO.none _
      | refine LeO.ite ?_ ?_
      | refine LeO.bind ?_ (fun _ => ?_)
set_option maxHeartbeats 8000000 in
set_option maxRecDepth 100000 in
theorem impl_layerOf.calls (k : Nat) (A0 : Option Addr) (c0 : Nat) (l0 : List (S55)) (a1 : Int) (r : Int) (w : World) (hr0 : Kd.C k55 w A0 l0.length l0) (hc0 : l0.length ≤ c0) (h : impl_layerOf.f k l0 a1 = some r) :
    Calls Try.prog 60 #[.slice A0 l0.length c0, .int .i64 a1] w fun e w' => e = .returned (.int .i64 r) ∧ Below w.heap.size w w' := by
  have hu55 := Try.underlying55
  have HR0 := Aside0.mk hr0
  have HC0 := Aside0.mk hc0
  clear hr0 hc0
  have HB := Aside0.mk (Below.refl w.heap.size w)
  have H : (impl_layerOf.l0 k a1 l0 (l0.length : Int) 0) = some r := h
  clear h
  have H' := Aside0.mk H
  clear H
  go_enter Try.func60, Try.ntmps60
  go_wp2
  go_loopg [9] k (fun kq v9 w' => ∃ (x9_1 : Int), v9 = .int .i64 x9_1 ∧ Aside0 (impl_layerOf.l0 kq a1 l0 (l0.length : Int) x9_1 = some r) ∧ Aside0 (kq ≤ k) ∧ Aside0 (Below w.heap.size w w'))
  case atStart => exact ⟨(0), (by first | rfl | (simp; done) | (simp [*]; done)), H', ⟨Nat.le_refl _⟩, ⟨by repeat (first | (with_reducible first | exact HB.out | apply below_alloc | apply pw_below_drewN | apply below_drew1) | exact HB.out)⟩⟩
  case round =>
    clear H'
    try clear p2
    obtain ⟨x9_1, rfl, HA, HK1, HB⟩ := hrel
    cases gk with
    | zero => exact absurd HA.out (by simp [impl_layerOf.l0])
    | succ k1 =>
      have H := HA.out
      clear HA
      simp only [impl_layerOf.l0] at H
      by_cases c3 : x9_1 < (l0.length : Int)
      · rw [if_pos c3] at H
        have c3b0 : decide (x9_1 < (l0.length : Int)) = true := decide_eq_true c3
        clear c3
        by_cases c4 : 0 ≤ x9_1
        · rw [if_pos c4] at H
          have c4b0 : decide (0 ≤ x9_1) = true := decide_eq_true c4
          clear c4
          by_cases c5 : x9_1 < (l0.length : Int)
          · rw [if_pos c5] at H
            have c5b0 : decide (x9_1 < (l0.length : Int)) = true := decide_eq_true c5
            clear c5
            by_cases c6 : a1 ≤ ((rd_T55 l0 x9_1).f0)
            · rw [if_pos c6] at H
              have c6b0 : decide (a1 ≤ ((rd_T55 l0 x9_1).f0)) = true := decide_eq_true c6
              clear c6
              obtain rfl := Option.some.inj H
              simp only [Option.some.injEq, Prod.mk.injEq] at H
              obtain ⟨rfl⟩ := H
              have p174 : 0 ≤ (x9_1 : Int) := of_decide_eq_true (by first | (with_reducible assumption) | assumption)
              have q174 : x9_1 < (l0.length : Int) := of_decide_eq_true (by first | (with_reducible assumption) | assumption)
              obtain ⟨ad174, e174, hx174_0, hx174_1, hx174_2⟩ := at_T55 HR0.out x9_1 p174 q174
              cases e174
              replace hx174_0 := (HB.out.cell (World.block_lt_of_cell? _ _ hx174_0)).trans hx174_0
              replace hx174_1 := (HB.out.cell (World.block_lt_of_cell? _ _ hx174_1)).trans hx174_1
              replace hx174_2 := (HB.out.cell (World.block_lt_of_cell? _ _ hx174_2)).trans hx174_2
              replace p174 := eq_true p174
              replace q174 := eq_true q174
              go_wp2_with (first | ((with_reducible refine gate_dst (N := 6) rfl ?_); refine box_event ?hg (N := 6) ?hd (cs := #[.int .i64 0, .int .i64 0, .int .i64 0]) (t := 55) ?hr ?_; (case hd => rfl); (case hg => rfl); (case hr => first | (go_simp; done) | (go_simp; rfl)); intro gb175 hg w7 hbox hb; have n0_ := Aside0.mk (below_step (by repeat (first | (with_reducible first | exact HB.out | apply below_alloc | apply pw_below_drewN | apply below_drew1) | exact HB.out)) hb); have n1_ := Aside0.mk (hbox); have n2_ := Aside0.mk ((by rw [hg]; exact (below_size (by repeat (first | (with_reducible first | exact HB.out | apply below_alloc | apply pw_below_drewN | apply below_drew1) | exact HB.out))) : w.heap.size ≤ gb175)); have n3_ := Aside0.mk ((by rw [hg]; exact (below_size (by repeat (first | (with_reducible first | exact HB.out | apply below_alloc | apply pw_below_drewN | apply below_drew1) | exact HB.out))) : w.heap.size ≤ gb175)); clear HB; have HB := n0_; have BK175 := n1_; have GW175 := n2_; have GE175 := n3_; clear n0_ n1_ n2_ n3_; clear hb hbox hg; have hcz8_0 : w7.cell? ⟨gb175, 0, none⟩ = some (.int .i64 0) := (blk_cell BK175.out 0).trans rfl; have hcz8_1 : w7.cell? ⟨gb175, 1, none⟩ = some (.int .i64 0) := (blk_cell BK175.out 1).trans rfl; have hcz8_2 : w7.cell? ⟨gb175, 2, none⟩ = some (.int .i64 0) := (blk_cell BK175.out 2).trans rfl; have hfz8_0 := blk_frozen BK175.out 0; have hfz8_1 := blk_frozen BK175.out 1; have hfz8_2 := blk_frozen BK175.out 2))
              go_ret
              exact ⟨by first | rfl | (simp [errW_none, errW_some] <;> rfl) | (simp [*, errW_none, errW_some] <;> rfl), by repeat (first | (with_reducible first | exact HB.out | apply below_alloc | apply pw_below_drewN | apply below_drew1 | refine below_set ?_ GE175.out) | exact HB.out)⟩
            · rw [if_neg c6] at H
              have c6b0 : decide (a1 ≤ ((rd_T55 l0 x9_1).f0)) = false := decide_eq_false c6
              clear c6
              have H' := Aside0.mk H
              clear H
              have p174 : 0 ≤ (x9_1 : Int) := of_decide_eq_true (by first | (with_reducible assumption) | assumption)
              have q174 : x9_1 < (l0.length : Int) := of_decide_eq_true (by first | (with_reducible assumption) | assumption)
              obtain ⟨ad174, e174, hx174_0, hx174_1, hx174_2⟩ := at_T55 HR0.out x9_1 p174 q174
              cases e174
              replace hx174_0 := (HB.out.cell (World.block_lt_of_cell? _ _ hx174_0)).trans hx174_0
              replace hx174_1 := (HB.out.cell (World.block_lt_of_cell? _ _ hx174_1)).trans hx174_1
              replace hx174_2 := (HB.out.cell (World.block_lt_of_cell? _ _ hx174_2)).trans hx174_2
              replace p174 := eq_true p174
              replace q174 := eq_true q174
              go_wp2_with (first | ((with_reducible refine gate_dst (N := 6) rfl ?_); refine box_event ?hg (N := 6) ?hd (cs := #[.int .i64 0, .int .i64 0, .int .i64 0]) (t := 55) ?hr ?_; (case hd => rfl); (case hg => rfl); (case hr => first | (go_simp; done) | (go_simp; rfl)); intro gb175 hg w9 hbox hb; have n0_ := Aside0.mk (below_step (by repeat (first | (with_reducible first | exact HB.out | apply below_alloc | apply pw_below_drewN | apply below_drew1) | exact HB.out)) hb); have n1_ := Aside0.mk (hbox); have n2_ := Aside0.mk ((by rw [hg]; exact (below_size (by repeat (first | (with_reducible first | exact HB.out | apply below_alloc | apply pw_below_drewN | apply below_drew1) | exact HB.out))) : w.heap.size ≤ gb175)); have n3_ := Aside0.mk ((by rw [hg]; exact (below_size (by repeat (first | (with_reducible first | exact HB.out | apply below_alloc | apply pw_below_drewN | apply below_drew1) | exact HB.out))) : w.heap.size ≤ gb175)); clear HB; have HB := n0_; have BK175 := n1_; have GW175 := n2_; have GE175 := n3_; clear n0_ n1_ n2_ n3_; clear hb hbox hg; have hcz10_0 : w9.cell? ⟨gb175, 0, none⟩ = some (.int .i64 0) := (blk_cell BK175.out 0).trans rfl; have hcz10_1 : w9.cell? ⟨gb175, 1, none⟩ = some (.int .i64 0) := (blk_cell BK175.out 1).trans rfl; have hcz10_2 : w9.cell? ⟨gb175, 2, none⟩ = some (.int .i64 0) := (blk_cell BK175.out 2).trans rfl; have hfz10_0 := blk_frozen BK175.out 0; have hfz10_1 := blk_frozen BK175.out 1; have hfz10_2 := blk_frozen BK175.out 2))
              go_roundg k1
              case measure => have := HK1.out; omega
              case rel => exact ⟨(wrap64 (x9_1 + 1)), (by first | rfl | (simp; done) | (simp [*]; done)), H', ⟨by have := HK1.out; omega⟩, ⟨by repeat (first | (with_reducible first | exact HB.out | apply below_alloc | apply pw_below_drewN | apply below_drew1 | refine below_set ?_ GE175.out) | exact HB.out)⟩⟩
          · rw [if_neg c5] at H
            exact absurd H (by simp)
        · rw [if_neg c4] at H
          exact absurd H (by simp)
      · rw [if_neg c3] at H
        have c3b0 : decide (x9_1 < (l0.length : Int)) = false := decide_eq_false c3
        clear c3
        obtain rfl := Option.some.inj H
        simp only [Option.some.injEq, Prod.mk.injEq] at H
        obtain ⟨rfl⟩ := H
        go_wp2
        go_ret
        exact ⟨by first | rfl | (simp [errW_none, errW_some] <;> rfl) | (simp [*, errW_none, errW_some] <;> rfl), by repeat (first | (with_reducible first | exact HB.out | apply below_alloc | apply pw_below_drewN | apply below_drew1) | exact HB.out)⟩

/-! ### impl_layersTo: function 55 -/
def impl_layersTo.j0 : Nat → List (S55) → Int → Bool → Option ((List (S55)) × Int)
  | 0, _, _, _ => none
  | k + 1, x0, x1, x18 => if x18 = true then (some (([] : List (S55)), 2)) else ((impl_layerOf.f k x0 x1).bind fun t178 => (if t178 < 0 then (some (([] : List (S55)), 4)) else ((some (([] : List (S55)) : List (S55))).bind fun y179 => (if 0 ≤ (wrap64 (t178 + 1)) then (if (wrap64 (t178 + 1)) ≤ (x0.length : Int) then ((some (x0.take ((wrap64 (t178 + 1)) : Int).toNat : List (S55))).bind fun y182 => (if y179.length + y182.length < 5864062014805 then (some ((y179 ++ y182), 0)) else (none))) else (none)) else (none)))))
def impl_layersTo.f (k : Nat) (l0 : List (S55)) (a1 : Int) (a2 : Bool) : Option ((List (S55)) × Int) := (impl_IsProfile.f k l0).bind fun t176 => (if t176 = true then ((impl_within.f a1 0 1000000).bind fun t177 => (if t177 = true then (impl_layersTo.j0 k l0 a1 (!a2)) else (impl_layersTo.j0 k l0 a1 true))) else (some (([] : List (S55)), 1)))
theorem impl_layersTo.mono_l : ∀ k, (∀ y0 y1 y2, LeO (impl_layersTo.j0 k y0 y1 y2) (impl_layersTo.j0 (k + 1) y0 y1 y2))
  | 0 => fun _ _ _ r h => by simp [impl_layersTo.j0] at h
  | k + 1 => by
    have ih0 := impl_layersTo.mono_l k
    · intro y0 y1 y2
      unfold impl_layersTo.j0
      repeat' first
      | (with_reducible exact ih0 _ _ _)
      | (with_reducible exact impl_IsProfile.mono _ _)
      | (with_reducible exact impl_layerOf.mono _ _ _)
      | (with_reducible exact LeO.refl _)
      | (with_reducible exact LeO.none _)
      | (with_reducible refine LeO.ite ?_ ?_)
      | (with_reducible refine LeO.bind ?_ (fun _ => ?_))
      | exact ih0 _ _ _
      | exact impl_IsProfile.mono _ _
      | exact impl_layerOf.mono _ _ _
      | exact LeO.none _
      | refine LeO.ite ?_ ?_
      | refine LeO.bind ?_ (fun _ => ?_)
theorem impl_layersTo.mono : ∀ a0 a1 a2 k, LeO (impl_layersTo.f k a0 a1 a2) (impl_layersTo.f (k + 1) a0 a1 a2) := by
  intro a0 a1 a2 k
  have ih0 := impl_layersTo.mono_l k
  unfold impl_layersTo.f
  repeat' first
      | (with_reducible exact ih0 _ _ _)
      | (with_reducible exact impl_IsProfile.mono _ _)
      | (with_reducible exact impl_layerOf.mono _ _ _)
      | (with_reducible exact LeO.refl _)
      | (with_reducible exact LeO.none _)
      | (with_reducible refine LeO.ite ?_ ?_)
      | (with_reducible refine LeO.bind ?_ (fun _ => ?_))
      | exact ih0 _ _ _
      | exact impl_IsProfile.mono _ _
      | exact impl_layerOf.mono _ _ _
      | exact LeO.none _
      | refine LeO.ite ?_ ?_
      | refine LeO.bind ?_ (fun _ => ?_)
theorem cut_cap {P : Program} (t e : TypeId) (kh : IntKind) {i : TypeInfo} (ht : P.underlying t = some (.slice e)) (hi : P.info? e = some i) (A : Option Addr) (n c : Nat) (j : Int) (h0 : 0 ≤ j) (hm : j ≤ c) :
    ∀ W : World, (Instr.slice t (.slice A n c) none (some (.int kh j)) none).run P W = .ok (.slice A j.toNat c) W := by
  intro W
  have hel : P.elem t = e := by simp [Program.elem, ht]
  have hu : P.underlying t = some (.slice (P.elem t)) := by rw [hel]; exact ht
  have ha : (A.map fun x => x.add 0) = A := by cases A <;> simp [Addr.add]
  rw [run_slice_h W t A n c hu kh j h0 (by omega), hel]
  simp [sizeOf, typeInfo, hi, sliced, Result.andThen, ha]
theorem drawn_below {w w' : World} (h : Drawn0 w w') : Below w.heap.size w w' := by
  obtain ⟨n, rfl⟩ := h
  exact pw_below_drewN (Below.refl _ _) n
def LTo (l : List S55) (r1 : List S55) (r2 : Int) (w : World) (e : Ending) (w' : World) : Prop := ∃ (A1 : Option Addr) (c1 : Nat), e = .returned (.tuple #[.slice A1 r1.length c1, .int .i64 r2]) ∧ Kd.C k55 w' A1 r1.length r1 ∧ r1.length ≤ c1 ∧ Below w.heap.size w w'
set_option maxHeartbeats 8000000 in
set_option maxRecDepth 100000 in
theorem layersTo1 (k : Nat) (A0 : Option Addr) (c0 : Nat) (l : List S55) (a1 : Int) (b : Bool) (w : World) (hr0 : Kd.C k55 w A0 l.length l) (hc0 : l.length ≤ c0) (h161 : impl_IsProfile.f k l = some false) :
    Calls Try.prog 55 #[.slice A0 l.length c0, .int .i64 a1, .bool b] w fun e w' => LTo l [] 1 w e w' := by
  have HR0 := Aside0.mk hr0
  have HC0 := Aside0.mk hc0
  have HB := Aside0.mk (Below.refl w.heap.size w)
  clear hr0 hc0
  go_enter Try.func55, Try.ntmps55
  go_wp2_with (first | ((with_reducible refine gate_callee (f := 17) rfl ?_); refine goesL_ (some 10) rfl rfl Try.func17 (by kernel_rfl) rfl #[.slice A0 l.length c0] rfl (by (try simp only [List.map_toArray, List.map_cons, List.map_nil]); first | done | rfl | (simp only [List.length_drop, List.length_take]; rfl) | (go_simp; done) | (simp; done) | (simp; rfl)) ?_; (with_reducible refine (impl_IsProfile.calls k _ _ l false _ ?side1 ?side2 h161).mono ?_); (case side1 => repeat (first | exact (Kd.C_below HR0.out (by repeat (first | (with_reducible first | exact HB.out | apply below_alloc | apply pw_below_drewN | apply below_drew1) | exact HB.out))) | (with_reducible refine Kd.C_alloc ?_ _) | (with_reducible refine Kd.C_drewN ?_ _) | (with_reducible refine Kd.C_drew ?_))); (case side2 => exact HC0.out); rintro e w1 ⟨rfl, hb⟩; refine ⟨_, rfl, ?_⟩; have nb_ := Aside0.mk (below_step (by repeat (first | (with_reducible first | exact HB.out | apply below_alloc | apply pw_below_drewN | apply below_drew1) | exact HB.out)) hb); clear HB; have HB := nb_; clear nb_ hb))
  go_ret2
  exact ⟨none, 0, by first | rfl | (simp [errW_none, errW_some] <;> rfl) | (simp [*, errW_none, errW_some] <;> rfl), ⟨rfl, by simp, fun h => absurd h (by simp)⟩, by simp, by repeat (first | (with_reducible first | exact HB.out | apply below_alloc | apply pw_below_drewN | apply below_drew1) | exact HB.out)⟩

set_option maxHeartbeats 8000000 in
set_option maxRecDepth 100000 in
theorem layersTo2 (k : Nat) (A0 : Option Addr) (c0 : Nat) (l : List S55) (a1 : Int) (b t162 : Bool) (w : World) (hr0 : Kd.C k55 w A0 l.length l) (hc0 : l.length ≤ c0) (h161 : impl_IsProfile.f k l = some true) (h162 : impl_within.f a1 0 1000000 = some t162) (hbad : t162 = false ∨ b = false) :
    Calls Try.prog 55 #[.slice A0 l.length c0, .int .i64 a1, .bool b] w fun e w' => LTo l [] 2 w e w' := by
  have HR0 := Aside0.mk hr0
  have HC0 := Aside0.mk hc0
  have HB := Aside0.mk (Below.refl w.heap.size w)
  clear hr0 hc0
  rcases hbad with rfl | rfl
  · go_enter Try.func55, Try.ntmps55
    go_wp2_with (first | ((with_reducible refine gate_callee (f := 17) rfl ?_); refine goesL_ (some 10) rfl rfl Try.func17 (by kernel_rfl) rfl #[.slice A0 l.length c0] rfl (by (try simp only [List.map_toArray, List.map_cons, List.map_nil]); first | done | rfl | (simp only [List.length_drop, List.length_take]; rfl) | (go_simp; done) | (simp; done) | (simp; rfl)) ?_; (with_reducible refine (impl_IsProfile.calls k _ _ l true _ ?side1 ?side2 h161).mono ?_); (case side1 => repeat (first | exact (Kd.C_below HR0.out (by repeat (first | (with_reducible first | exact HB.out | apply below_alloc | apply pw_below_drewN | apply below_drew1) | exact HB.out))) | (with_reducible refine Kd.C_alloc ?_ _) | (with_reducible refine Kd.C_drewN ?_ _) | (with_reducible refine Kd.C_drew ?_))); (case side2 => exact HC0.out); rintro e w1 ⟨rfl, hb⟩; refine ⟨_, rfl, ?_⟩; have nb_ := Aside0.mk (below_step (by repeat (first | (with_reducible first | exact HB.out | apply below_alloc | apply pw_below_drewN | apply below_drew1) | exact HB.out)) hb); clear HB; have HB := nb_; clear nb_ hb) | ((with_reducible refine gate_callee (f := 51) rfl ?_); refine goesL_ (some 13) rfl rfl Try.func51 (by kernel_rfl) rfl #[.int .i64 a1, .int .i64 0, .int .i64 1000000] rfl (by (try simp only [List.map_toArray, List.map_cons, List.map_nil]); first | done | rfl | (simp only [List.length_drop, List.length_take]; rfl) | (go_simp; done) | (simp; done) | (simp; rfl)) ?_; (with_reducible refine (impl_within.calls _ _ _ false _ h162).mono ?_); rintro e w2 ⟨rfl, hd⟩; have hb := drawn_below hd; clear hd; refine ⟨_, rfl, ?_⟩; have nb_ := Aside0.mk (below_step (by repeat (first | (with_reducible first | exact HB.out | apply below_alloc | apply pw_below_drewN | apply below_drew1) | exact HB.out)) hb); clear HB; have HB := nb_; clear nb_ hb))
    go_ret2
    exact ⟨none, 0, by first | rfl | (simp [errW_none, errW_some] <;> rfl) | (simp [*, errW_none, errW_some] <;> rfl), ⟨rfl, by simp, fun h => absurd h (by simp)⟩, by simp, by repeat (first | (with_reducible first | exact HB.out | apply below_alloc | apply pw_below_drewN | apply below_drew1) | exact HB.out)⟩
  cases t162
  · go_enter Try.func55, Try.ntmps55
    go_wp2_with (first | ((with_reducible refine gate_callee (f := 17) rfl ?_); refine goesL_ (some 10) rfl rfl Try.func17 (by kernel_rfl) rfl #[.slice A0 l.length c0] rfl (by (try simp only [List.map_toArray, List.map_cons, List.map_nil]); first | done | rfl | (simp only [List.length_drop, List.length_take]; rfl) | (go_simp; done) | (simp; done) | (simp; rfl)) ?_; (with_reducible refine (impl_IsProfile.calls k _ _ l true _ ?side1 ?side2 h161).mono ?_); (case side1 => repeat (first | exact (Kd.C_below HR0.out (by repeat (first | (with_reducible first | exact HB.out | apply below_alloc | apply pw_below_drewN | apply below_drew1) | exact HB.out))) | (with_reducible refine Kd.C_alloc ?_ _) | (with_reducible refine Kd.C_drewN ?_ _) | (with_reducible refine Kd.C_drew ?_))); (case side2 => exact HC0.out); rintro e w1 ⟨rfl, hb⟩; refine ⟨_, rfl, ?_⟩; have nb_ := Aside0.mk (below_step (by repeat (first | (with_reducible first | exact HB.out | apply below_alloc | apply pw_below_drewN | apply below_drew1) | exact HB.out)) hb); clear HB; have HB := nb_; clear nb_ hb) | ((with_reducible refine gate_callee (f := 51) rfl ?_); refine goesL_ (some 13) rfl rfl Try.func51 (by kernel_rfl) rfl #[.int .i64 a1, .int .i64 0, .int .i64 1000000] rfl (by (try simp only [List.map_toArray, List.map_cons, List.map_nil]); first | done | rfl | (simp only [List.length_drop, List.length_take]; rfl) | (go_simp; done) | (simp; done) | (simp; rfl)) ?_; (with_reducible refine (impl_within.calls _ _ _ false _ h162).mono ?_); rintro e w2 ⟨rfl, hd⟩; have hb := drawn_below hd; clear hd; refine ⟨_, rfl, ?_⟩; have nb_ := Aside0.mk (below_step (by repeat (first | (with_reducible first | exact HB.out | apply below_alloc | apply pw_below_drewN | apply below_drew1) | exact HB.out)) hb); clear HB; have HB := nb_; clear nb_ hb))
    go_ret2
    exact ⟨none, 0, by first | rfl | (simp [errW_none, errW_some] <;> rfl) | (simp [*, errW_none, errW_some] <;> rfl), ⟨rfl, by simp, fun h => absurd h (by simp)⟩, by simp, by repeat (first | (with_reducible first | exact HB.out | apply below_alloc | apply pw_below_drewN | apply below_drew1) | exact HB.out)⟩
  · go_enter Try.func55, Try.ntmps55
    go_wp2_with (first | ((with_reducible refine gate_callee (f := 17) rfl ?_); refine goesL_ (some 10) rfl rfl Try.func17 (by kernel_rfl) rfl #[.slice A0 l.length c0] rfl (by (try simp only [List.map_toArray, List.map_cons, List.map_nil]); first | done | rfl | (simp only [List.length_drop, List.length_take]; rfl) | (go_simp; done) | (simp; done) | (simp; rfl)) ?_; (with_reducible refine (impl_IsProfile.calls k _ _ l true _ ?side1 ?side2 h161).mono ?_); (case side1 => repeat (first | exact (Kd.C_below HR0.out (by repeat (first | (with_reducible first | exact HB.out | apply below_alloc | apply pw_below_drewN | apply below_drew1) | exact HB.out))) | (with_reducible refine Kd.C_alloc ?_ _) | (with_reducible refine Kd.C_drewN ?_ _) | (with_reducible refine Kd.C_drew ?_))); (case side2 => exact HC0.out); rintro e w1 ⟨rfl, hb⟩; refine ⟨_, rfl, ?_⟩; have nb_ := Aside0.mk (below_step (by repeat (first | (with_reducible first | exact HB.out | apply below_alloc | apply pw_below_drewN | apply below_drew1) | exact HB.out)) hb); clear HB; have HB := nb_; clear nb_ hb) | ((with_reducible refine gate_callee (f := 51) rfl ?_); refine goesL_ (some 13) rfl rfl Try.func51 (by kernel_rfl) rfl #[.int .i64 a1, .int .i64 0, .int .i64 1000000] rfl (by (try simp only [List.map_toArray, List.map_cons, List.map_nil]); first | done | rfl | (simp only [List.length_drop, List.length_take]; rfl) | (go_simp; done) | (simp; done) | (simp; rfl)) ?_; (with_reducible refine (impl_within.calls _ _ _ true _ h162).mono ?_); rintro e w2 ⟨rfl, hd⟩; have hb := drawn_below hd; clear hd; refine ⟨_, rfl, ?_⟩; have nb_ := Aside0.mk (below_step (by repeat (first | (with_reducible first | exact HB.out | apply below_alloc | apply pw_below_drewN | apply below_drew1) | exact HB.out)) hb); clear HB; have HB := nb_; clear nb_ hb))
    go_ret2
    exact ⟨none, 0, by first | rfl | (simp [errW_none, errW_some] <;> rfl) | (simp [*, errW_none, errW_some] <;> rfl), ⟨rfl, by simp, fun h => absurd h (by simp)⟩, by simp, by repeat (first | (with_reducible first | exact HB.out | apply below_alloc | apply pw_below_drewN | apply below_drew1) | exact HB.out)⟩

set_option maxHeartbeats 8000000 in
set_option maxRecDepth 100000 in
theorem layersTo3 (k : Nat) (A0 : Option Addr) (c0 : Nat) (l : List S55) (a1 t163 : Int) (w : World) (hr0 : Kd.C k55 w A0 l.length l) (hc0 : l.length ≤ c0) (h161 : impl_IsProfile.f k l = some true) (h162 : impl_within.f a1 0 1000000 = some true) (h163 : impl_layerOf.f k l a1 = some t163) (hneg : t163 < 0) :
    Calls Try.prog 55 #[.slice A0 l.length c0, .int .i64 a1, .bool true] w fun e w' => LTo l [] 4 w e w' := by
  have HR0 := Aside0.mk hr0
  have HC0 := Aside0.mk hc0
  have HB := Aside0.mk (Below.refl w.heap.size w)
  have c1 : decide (t163 < 0) = true := decide_eq_true hneg
  clear hr0 hc0 hneg
  go_enter Try.func55, Try.ntmps55
  go_wp2_with (first | ((with_reducible refine gate_callee (f := 17) rfl ?_); refine goesL_ (some 10) rfl rfl Try.func17 (by kernel_rfl) rfl #[.slice A0 l.length c0] rfl (by (try simp only [List.map_toArray, List.map_cons, List.map_nil]); first | done | rfl | (simp only [List.length_drop, List.length_take]; rfl) | (go_simp; done) | (simp; done) | (simp; rfl)) ?_; (with_reducible refine (impl_IsProfile.calls k _ _ l true _ ?side1 ?side2 h161).mono ?_); (case side1 => repeat (first | exact (Kd.C_below HR0.out (by repeat (first | (with_reducible first | exact HB.out | apply below_alloc | apply pw_below_drewN | apply below_drew1) | exact HB.out))) | (with_reducible refine Kd.C_alloc ?_ _) | (with_reducible refine Kd.C_drewN ?_ _) | (with_reducible refine Kd.C_drew ?_))); (case side2 => exact HC0.out); rintro e w1 ⟨rfl, hb⟩; refine ⟨_, rfl, ?_⟩; have nb_ := Aside0.mk (below_step (by repeat (first | (with_reducible first | exact HB.out | apply below_alloc | apply pw_below_drewN | apply below_drew1) | exact HB.out)) hb); clear HB; have HB := nb_; clear nb_ hb) | ((with_reducible refine gate_callee (f := 51) rfl ?_); refine goesL_ (some 13) rfl rfl Try.func51 (by kernel_rfl) rfl #[.int .i64 a1, .int .i64 0, .int .i64 1000000] rfl (by (try simp only [List.map_toArray, List.map_cons, List.map_nil]); first | done | rfl | (simp only [List.length_drop, List.length_take]; rfl) | (go_simp; done) | (simp; done) | (simp; rfl)) ?_; (with_reducible refine (impl_within.calls _ _ _ true _ h162).mono ?_); rintro e w2 ⟨rfl, hd⟩; have hb := drawn_below hd; clear hd; refine ⟨_, rfl, ?_⟩; have nb_ := Aside0.mk (below_step (by repeat (first | (with_reducible first | exact HB.out | apply below_alloc | apply pw_below_drewN | apply below_drew1) | exact HB.out)) hb); clear HB; have HB := nb_; clear nb_ hb) | ((with_reducible refine gate_callee (f := 60) rfl ?_); refine goesL_ (some 21) rfl rfl Try.func60 (by kernel_rfl) rfl #[.slice A0 l.length c0, .int .i64 a1] rfl (by (try simp only [List.map_toArray, List.map_cons, List.map_nil]); first | done | rfl | (simp only [List.length_drop, List.length_take]; rfl) | (go_simp; done) | (simp; done) | (simp; rfl)) ?_; (with_reducible refine (impl_layerOf.calls k _ _ l a1 t163 _ ?side1 ?side2 h163).mono ?_); (case side1 => repeat (first | exact (Kd.C_below HR0.out (by repeat (first | (with_reducible first | exact HB.out | apply below_alloc | apply pw_below_drewN | apply below_drew1) | exact HB.out))) | (with_reducible refine Kd.C_alloc ?_ _) | (with_reducible refine Kd.C_drewN ?_ _) | (with_reducible refine Kd.C_drew ?_))); (case side2 => exact HC0.out); rintro e w3 ⟨rfl, hb⟩; refine ⟨_, rfl, ?_⟩; have nb_ := Aside0.mk (below_step (by repeat (first | (with_reducible first | exact HB.out | apply below_alloc | apply pw_below_drewN | apply below_drew1) | exact HB.out)) hb); clear HB; have HB := nb_; clear nb_ hb))
  go_ret2
  exact ⟨none, 0, by first | rfl | (simp [errW_none, errW_some] <;> rfl) | (simp [*, errW_none, errW_some] <;> rfl), ⟨rfl, by simp, fun h => absurd h (by simp)⟩, by simp, by repeat (first | (with_reducible first | exact HB.out | apply below_alloc | apply pw_below_drewN | apply below_drew1) | exact HB.out)⟩

set_option maxHeartbeats 8000000 in
set_option maxRecDepth 100000 in
theorem layersTo4 (k : Nat) (A0 : Option Addr) (c0 : Nat) (l M : List S55) (a1 t163 : Int) (w : World) (hr0 : Kd.C k55 w A0 l.length l) (hc0 : l.length ≤ c0) (h161 : impl_IsProfile.f k l = some true) (h162 : impl_within.f a1 0 1000000 = some true) (h163 : impl_layerOf.f k l a1 = some t163) (h0 : 0 ≤ t163) (h1 : t163 < l.length) (h2 : l.length ≤ 9223372036854775807) (hM : M = l.take (t163 + 1).toNat) :
    Calls Try.prog 55 #[.slice A0 l.length c0, .int .i64 a1, .bool true] w fun e w' => LTo l M 0 w e w' := by
  have HR0 := Aside0.mk hr0
  have HC0 := Aside0.mk hc0
  have HB := Aside0.mk (Below.refl w.heap.size w)
  have c1 : decide (t163 < 0) = false := decide_eq_false (by omega)
  obtain ⟨i011, hi011, _, hsz11, _⟩ := info_parts info55
  have hw : wrap64 (t163 + 1) = t163 + 1 := by unfold wrap64; omega
  have hcut := cut_cap (P := Try.prog) 25 55 .i64 Try.underlying25 hi011 A0 l.length c0 (t163 + 1) (by omega) (by omega)
  have hMl : (t163 + 1).toNat = M.length := by rw [hM, List.length_take]; omega
  rw [hMl] at hcut
  have HM : ∀ {W : World}, Kd.C k55 W A0 l.length l → Kd.C k55 W A0 M.length M := by
    intro W h
    rw [hM]
    exact Kd.C_take (m := (t163 + 1).toNat) h (by omega)
  have hMc : M.length ≤ c0 := by omega
  obtain ⟨ji, hji⟩ : ∃ j_ : Int, t163 + 1 = j_ := ⟨_, rfl⟩
  have hj : IntKind.i64.wrap (t163 + 1) = ji := (i64_w _).trans (hw.trans hji)
  have hj2 : wrap64 (t163 + 1) = ji := hw.trans hji
  rw [hji] at hcut
  clear hr0 hc0 h0 h1 h2 hw hi011 hsz11 hM hMl hji
  go_enter Try.func55, Try.ntmps55
  go_wp2_with (first | ((with_reducible refine gate_callee (f := 17) rfl ?_); refine goesL_ (some 10) rfl rfl Try.func17 (by kernel_rfl) rfl #[.slice A0 l.length c0] rfl (by (try simp only [List.map_toArray, List.map_cons, List.map_nil]); first | done | rfl | (simp only [List.length_drop, List.length_take]; rfl) | (go_simp; done) | (simp; done) | (simp; rfl)) ?_; (with_reducible refine (impl_IsProfile.calls k _ _ l true _ ?side1 ?side2 h161).mono ?_); (case side1 => repeat (first | exact (Kd.C_below HR0.out (by repeat (first | (with_reducible first | exact HB.out | apply below_alloc | apply pw_below_drewN | apply below_drew1) | exact HB.out))) | (with_reducible refine Kd.C_alloc ?_ _) | (with_reducible refine Kd.C_drewN ?_ _) | (with_reducible refine Kd.C_drew ?_))); (case side2 => exact HC0.out); rintro e w1 ⟨rfl, hb⟩; refine ⟨_, rfl, ?_⟩; have nb_ := Aside0.mk (below_step (by repeat (first | (with_reducible first | exact HB.out | apply below_alloc | apply pw_below_drewN | apply below_drew1) | exact HB.out)) hb); clear HB; have HB := nb_; clear nb_ hb) | ((with_reducible refine gate_callee (f := 51) rfl ?_); refine goesL_ (some 13) rfl rfl Try.func51 (by kernel_rfl) rfl #[.int .i64 a1, .int .i64 0, .int .i64 1000000] rfl (by (try simp only [List.map_toArray, List.map_cons, List.map_nil]); first | done | rfl | (simp only [List.length_drop, List.length_take]; rfl) | (go_simp; done) | (simp; done) | (simp; rfl)) ?_; (with_reducible refine (impl_within.calls _ _ _ true _ h162).mono ?_); rintro e w2 ⟨rfl, hd⟩; have hb := drawn_below hd; clear hd; refine ⟨_, rfl, ?_⟩; have nb_ := Aside0.mk (below_step (by repeat (first | (with_reducible first | exact HB.out | apply below_alloc | apply pw_below_drewN | apply below_drew1) | exact HB.out)) hb); clear HB; have HB := nb_; clear nb_ hb) | ((with_reducible refine gate_callee (f := 60) rfl ?_); refine goesL_ (some 21) rfl rfl Try.func60 (by kernel_rfl) rfl #[.slice A0 l.length c0, .int .i64 a1] rfl (by (try simp only [List.map_toArray, List.map_cons, List.map_nil]); first | done | rfl | (simp only [List.length_drop, List.length_take]; rfl) | (go_simp; done) | (simp; done) | (simp; rfl)) ?_; (with_reducible refine (impl_layerOf.calls k _ _ l a1 t163 _ ?side1 ?side2 h163).mono ?_); (case side1 => repeat (first | exact (Kd.C_below HR0.out (by repeat (first | (with_reducible first | exact HB.out | apply below_alloc | apply pw_below_drewN | apply below_drew1) | exact HB.out))) | (with_reducible refine Kd.C_alloc ?_ _) | (with_reducible refine Kd.C_drewN ?_ _) | (with_reducible refine Kd.C_drew ?_))); (case side2 => exact HC0.out); rintro e w3 ⟨rfl, hb⟩; refine ⟨_, rfl, ?_⟩; have nb_ := Aside0.mk (below_step (by repeat (first | (with_reducible first | exact HB.out | apply below_alloc | apply pw_below_drewN | apply below_drew1) | exact HB.out)) hb); clear HB; have HB := nb_; clear nb_ hb))
  go_ret2
  exact ⟨A0, c0, by first | rfl | (simp [errW_none, errW_some] <;> rfl) | (simp [*, errW_none, errW_some] <;> rfl), HM (by repeat (first | exact (Kd.C_below HR0.out (by repeat (first | (with_reducible first | exact HB.out | apply below_alloc | apply pw_below_drewN | apply below_drew1) | exact HB.out))) | (with_reducible refine Kd.C_alloc ?_ _) | (with_reducible refine Kd.C_drewN ?_ _) | (with_reducible refine Kd.C_drew ?_))), hMc, by repeat (first | (with_reducible first | exact HB.out | apply below_alloc | apply pw_below_drewN | apply below_drew1) | exact HB.out)⟩

theorem layerOf_lt (h : Int) (l : List S55) : ∀ (k : Nat) (i t : Int), impl_layerOf.l0 k h l (l.length : Int) i = some t → t < (l.length : Int)
  | 0, i, t, e => by simp [impl_layerOf.l0] at e
  | k + 1, i, t, e => by
    unfold impl_layerOf.l0 at e
    repeat' split at e
    all_goals first
      | (simp at e; done)
      | (simp only [Option.some.injEq] at e; omega)
      | exact layerOf_lt h l k _ t e
theorem layersTo_len (k : Nat) (l : List S55) (a1 : Int) (b : Bool) (M : List S55) (er : Int) (h : impl_layersTo.f k l a1 b = some (M, er)) : M.length ≤ l.length := by
  have key : ∀ (k : Nat) (x : Bool), impl_layersTo.j0 k l a1 x = some (M, er) → M.length ≤ l.length := by
    intro k x e
    cases k with
    | zero => simp [impl_layersTo.j0] at e
    | succ k =>
      simp only [impl_layersTo.j0] at e
      split at e
      · simp only [Option.some.injEq, Prod.mk.injEq] at e; rw [← e.1]; simp
      · obtain ⟨t, _, e⟩ := Option.bind_eq_some_iff.mp e
        split at e
        · simp only [Option.some.injEq, Prod.mk.injEq] at e; rw [← e.1]; simp
        · simp only [Option.bind_some] at e
          split at e
          · split at e
            · split at e
              · simp only [Option.some.injEq, Prod.mk.injEq, List.nil_append] at e; rw [← e.1, List.length_take]; omega
              · exact absurd e (by simp)
            · exact absurd e (by simp)
          · exact absurd e (by simp)
  unfold impl_layersTo.f at h
  obtain ⟨t, _, h⟩ := Option.bind_eq_some_iff.mp h
  split at h
  · obtain ⟨t2, _, h⟩ := Option.bind_eq_some_iff.mp h
    split at h <;> exact key _ _ h
  · simp only [Option.some.injEq, Prod.mk.injEq] at h; rw [← h.1]; simp
theorem layersTo_own (k : Nat) (A0 : Option Addr) (c0 : Nat) (l : List S55) (a1 : Int) (b : Bool) (M : List S55) (er : Int) (w : World) (hr0 : Kd.C k55 w A0 l.length l) (hc0 : l.length ≤ c0) (h : impl_layersTo.f k l a1 b = some (M, er)) :
    Calls Try.prog 55 #[.slice A0 l.length c0, .int .i64 a1, .bool b] w fun e w' => LTo l M er w e w' := by
  unfold impl_layersTo.f at h
  obtain ⟨t, h1, h⟩ := Option.bind_eq_some_iff.mp h
  cases t with
  | false =>
    simp only [Bool.false_eq_true, if_false, Option.some.injEq, Prod.mk.injEq] at h
    obtain ⟨rfl, rfl⟩ := h
    exact layersTo1 k A0 c0 l a1 b w hr0 hc0 h1
  | true =>
    simp only [if_true] at h
    obtain ⟨t2, h2, h⟩ := Option.bind_eq_some_iff.mp h
    cases k with
    | zero => cases t2 <;> simp [impl_layersTo.j0] at h
    | succ k =>
      cases t2 with
      | false =>
        simp only [Bool.false_eq_true, if_false, impl_layersTo.j0, if_true, Option.some.injEq, Prod.mk.injEq] at h
        obtain ⟨rfl, rfl⟩ := h
        exact layersTo2 (k + 1) A0 c0 l a1 b false w hr0 hc0 h1 h2 (.inl rfl)
      | true =>
        cases b with
        | false =>
          simp only [if_true, impl_layersTo.j0, Bool.not_false, Option.some.injEq, Prod.mk.injEq] at h
          obtain ⟨rfl, rfl⟩ := h
          exact layersTo2 (k + 1) A0 c0 l a1 false true w hr0 hc0 h1 h2 (.inr rfl)
        | true =>
          simp only [if_true, impl_layersTo.j0, Bool.not_true, Bool.false_eq_true, if_false] at h
          obtain ⟨t3, h3, h⟩ := Option.bind_eq_some_iff.mp h
          have hlt := layerOf_lt a1 l k 0 t3 h3
          have hcap : l.length ≤ 9223372036854775807 := hr0.2.1
          have h3' := impl_layerOf.mono l a1 k t3 h3
          by_cases c : t3 < 0
          · simp only [c, if_true, Option.some.injEq, Prod.mk.injEq] at h
            obtain ⟨rfl, rfl⟩ := h
            exact layersTo3 (k + 1) A0 c0 l a1 t3 w hr0 hc0 h1 h2 h3' c
          · have hw : wrap64 (t3 + 1) = t3 + 1 := by unfold wrap64; omega
            simp only [c, if_false, Option.bind_some, hw] at h
            rw [if_pos (by omega), if_pos (by omega)] at h
            split at h
            · simp only [Option.some.injEq, Prod.mk.injEq, List.nil_append] at h
              obtain ⟨hM_, hE_⟩ := h
              subst hE_
              exact layersTo4 (k + 1) A0 c0 l M a1 t3 w hr0 hc0 h1 h2 h3' (by omega) hlt hcap hM_.symm
            · exact absurd h (by simp)
theorem layersTo_nil (k : Nat) (l : List S55) (a1 : Int) (b : Bool) (M : List S55) (er : Int) (h : impl_layersTo.f k l a1 b = some (M, er)) (he : er ≠ 0) : M = [] := by
  have key : ∀ (k : Nat) (x : Bool), impl_layersTo.j0 k l a1 x = some (M, er) → M = [] := by
    intro k x e
    cases k with
    | zero => simp [impl_layersTo.j0] at e
    | succ k =>
      simp only [impl_layersTo.j0] at e
      split at e
      · simp only [Option.some.injEq, Prod.mk.injEq] at e; exact e.1.symm
      · obtain ⟨t, _, e⟩ := Option.bind_eq_some_iff.mp e
        split at e
        · simp only [Option.some.injEq, Prod.mk.injEq] at e; exact e.1.symm
        · simp only [Option.bind_some] at e
          split at e
          · split at e
            · split at e
              · simp only [Option.some.injEq, Prod.mk.injEq] at e; exact absurd e.2.symm he
              · exact absurd e (by simp)
            · exact absurd e (by simp)
          · exact absurd e (by simp)
  unfold impl_layersTo.f at h
  obtain ⟨t, _, h⟩ := Option.bind_eq_some_iff.mp h
  split at h
  · obtain ⟨t2, _, h⟩ := Option.bind_eq_some_iff.mp h
    split at h <;> exact key _ _ h
  · simp only [Option.some.injEq, Prod.mk.injEq] at h; exact h.1.symm
theorem layersTo_off (k : Nat) (l : List S55) (a1 : Int) (M : List S55) (er : Int) (h : impl_layersTo.f k l a1 false = some (M, er)) : er ≠ 0 := by
  unfold impl_layersTo.f at h
  obtain ⟨t, _, h⟩ := Option.bind_eq_some_iff.mp h
  split at h
  · obtain ⟨t2, _, h⟩ := Option.bind_eq_some_iff.mp h
    cases k with
    | zero => split at h <;> simp [impl_layersTo.j0] at h
    | succ k =>
      split at h <;> (simp only [impl_layersTo.j0, Bool.not_false, if_true, Option.some.injEq, Prod.mk.injEq] at h; rw [← h.2]; decide)
  · simp only [Option.some.injEq, Prod.mk.injEq] at h; rw [← h.2]; decide

/-! ### impl_WidenWind: function 37 -/
def impl_WidenWind.f (k : Nat) (l0 : List (S55)) (a1 : Int) (a2 : Int) : Option ((List (S55)) × Int) := (impl_isSide.f a2).bind fun t189 => ((impl_layersTo.f k l0 a1 t189).bind fun bt190 => (if bt190.2 = 0 then ((some (([] : List (S55)) : List (S55))).bind fun y194 => (if y194.length + l0.length < 5864062014805 then ((some (y194 ++ l0 : List (S55))).bind fun y197 => (if 0 ≤ (wrap64 ((bt190.1.length : Int) - 1)) then (if (wrap64 ((bt190.1.length : Int) - 1)) < (y197.length : Int) then ((some (y197.set ((wrap64 ((bt190.1.length : Int) - 1)) : Int).toNat (⟨(rd_T55 y197 (wrap64 ((bt190.1.length : Int) - 1))).f0, mn ((rd_T55 y197 (wrap64 ((bt190.1.length : Int) - 1))).f1) a2, (rd_T55 y197 (wrap64 ((bt190.1.length : Int) - 1))).f2⟩ : S55) : List (S55))).bind fun y201 => (some ((y201.set ((wrap64 ((bt190.1.length : Int) - 1)) : Int).toNat (⟨(rd_T55 y201 (wrap64 ((bt190.1.length : Int) - 1))).f0, (rd_T55 y201 (wrap64 ((bt190.1.length : Int) - 1))).f1, mx ((rd_T55 y201 (wrap64 ((bt190.1.length : Int) - 1))).f2) a2⟩ : S55)), 0))) else (none)) else (none))) else (none))) else (some (([] : List (S55)), bt190.2))))
theorem impl_WidenWind.mono : ∀ a0 a1 a2 k, LeO (impl_WidenWind.f k a0 a1 a2) (impl_WidenWind.f (k + 1) a0 a1 a2) := by
  intro a0 a1 a2 k
  unfold impl_WidenWind.f
  repeat' first
      | (with_reducible exact impl_layersTo.mono _ _ _ _)
      | (with_reducible exact LeO.refl _)
      | (with_reducible exact LeO.none _)
      | (with_reducible refine LeO.ite ?_ ?_)
      | (with_reducible refine LeO.bind ?_ (fun _ => ?_))
      | exact impl_layersTo.mono _ _ _ _
      | exact LeO.none _
      | refine LeO.ite ?_ ?_
      | refine LeO.bind ?_ (fun _ => ?_)
set_option maxHeartbeats 8000000 in
set_option maxRecDepth 100000 in
theorem impl_WidenWind.calls (k : Nat) (A0 : Option Addr) (c0 : Nat) (l0 : List (S55)) (a1 : Int) (a2 : Int) (r1 : List (S55)) (r2 : Int) (w : World) (hr0 : Kd.C k55 w A0 l0.length l0) (hc0 : l0.length ≤ c0) (h : impl_WidenWind.f k l0 a1 a2 = some (r1, r2)) :
    Calls Try.prog 37 #[.slice A0 l0.length c0, .int .i64 a1, .int .i64 a2] w fun e w' => ∃ v0_ : Value, e = .returned (.tuple #[v0_, .int .i64 r2]) ∧ Kd.R k55 55 w' w.heap.size (fun _ => True) v0_ r1 ∧ Below w.heap.size w w' := by
  have HR0 := Aside0.mk hr0
  have HC0 := Aside0.mk hc0
  clear hr0 hc0
  have HB := Aside0.mk (Below.refl w.heap.size w)
  have H : ((impl_isSide.f a2).bind fun t189 => ((impl_layersTo.f k l0 a1 t189).bind fun bt190 => (if bt190.2 = 0 then ((some (([] : List (S55)) : List (S55))).bind fun y194 => (if y194.length + l0.length < 5864062014805 then ((some (y194 ++ l0 : List (S55))).bind fun y197 => (if 0 ≤ (wrap64 ((bt190.1.length : Int) - 1)) then (if (wrap64 ((bt190.1.length : Int) - 1)) < (y197.length : Int) then ((some (y197.set ((wrap64 ((bt190.1.length : Int) - 1)) : Int).toNat (⟨(rd_T55 y197 (wrap64 ((bt190.1.length : Int) - 1))).f0, mn ((rd_T55 y197 (wrap64 ((bt190.1.length : Int) - 1))).f1) a2, (rd_T55 y197 (wrap64 ((bt190.1.length : Int) - 1))).f2⟩ : S55) : List (S55))).bind fun y201 => (some ((y201.set ((wrap64 ((bt190.1.length : Int) - 1)) : Int).toNat (⟨(rd_T55 y201 (wrap64 ((bt190.1.length : Int) - 1))).f0, (rd_T55 y201 (wrap64 ((bt190.1.length : Int) - 1))).f1, mx ((rd_T55 y201 (wrap64 ((bt190.1.length : Int) - 1))).f2) a2⟩ : S55)), 0))) else (none)) else (none))) else (none))) else (some (([] : List (S55)), bt190.2))))) = some (r1, r2) := h
  clear h
  replace H := Option.bind_eq_some_iff.mp H
  obtain ⟨t189, A40, H⟩ := H
  replace H : ((impl_layersTo.f k l0 a1 t189).bind fun bt190 => (if bt190.2 = 0 then ((some (([] : List (S55)) : List (S55))).bind fun y194 => (if y194.length + l0.length < 5864062014805 then ((some (y194 ++ l0 : List (S55))).bind fun y197 => (if 0 ≤ (wrap64 ((bt190.1.length : Int) - 1)) then (if (wrap64 ((bt190.1.length : Int) - 1)) < (y197.length : Int) then ((some (y197.set ((wrap64 ((bt190.1.length : Int) - 1)) : Int).toNat (⟨(rd_T55 y197 (wrap64 ((bt190.1.length : Int) - 1))).f0, mn ((rd_T55 y197 (wrap64 ((bt190.1.length : Int) - 1))).f1) a2, (rd_T55 y197 (wrap64 ((bt190.1.length : Int) - 1))).f2⟩ : S55) : List (S55))).bind fun y201 => (some ((y201.set ((wrap64 ((bt190.1.length : Int) - 1)) : Int).toNat (⟨(rd_T55 y201 (wrap64 ((bt190.1.length : Int) - 1))).f0, (rd_T55 y201 (wrap64 ((bt190.1.length : Int) - 1))).f1, mx ((rd_T55 y201 (wrap64 ((bt190.1.length : Int) - 1))).f2) a2⟩ : S55)), 0))) else (none)) else (none))) else (none))) else (some (([] : List (S55)), bt190.2)))) = some (r1, r2) := H
  have A4 := Aside0.mk A40
  clear A40
  replace H := Option.bind_eq_some_iff.mp H
  obtain ⟨⟨t190, t191⟩, A50, H⟩ := H
  replace H : (if t191 = 0 then ((some (([] : List (S55)) : List (S55))).bind fun y194 => (if y194.length + l0.length < 5864062014805 then ((some (y194 ++ l0 : List (S55))).bind fun y197 => (if 0 ≤ (wrap64 ((t190.length : Int) - 1)) then (if (wrap64 ((t190.length : Int) - 1)) < (y197.length : Int) then ((some (y197.set ((wrap64 ((t190.length : Int) - 1)) : Int).toNat (⟨(rd_T55 y197 (wrap64 ((t190.length : Int) - 1))).f0, mn ((rd_T55 y197 (wrap64 ((t190.length : Int) - 1))).f1) a2, (rd_T55 y197 (wrap64 ((t190.length : Int) - 1))).f2⟩ : S55) : List (S55))).bind fun y201 => (some ((y201.set ((wrap64 ((t190.length : Int) - 1)) : Int).toNat (⟨(rd_T55 y201 (wrap64 ((t190.length : Int) - 1))).f0, (rd_T55 y201 (wrap64 ((t190.length : Int) - 1))).f1, mx ((rd_T55 y201 (wrap64 ((t190.length : Int) - 1))).f2) a2⟩ : S55)), 0))) else (none)) else (none))) else (none))) else (some (([] : List (S55)), t191))) = some (r1, r2) := H
  have A5 := Aside0.mk A50
  clear A50
  by_cases c6 : t191 = 0
  · rw [if_pos c6] at H
    have c6b0 : (t191 == 0) = true := beq_iff_eq.mpr c6
    have c6b1 : (t191 != 0) = false := bne_eq_false_iff_eq.mpr c6
    clear c6
    obtain ⟨y194, hy194⟩ : ∃ y_ : List (S55), y_ = (([] : List (S55))) := ⟨_, rfl⟩
    replace H : (if y194.length + l0.length < 5864062014805 then ((some (y194 ++ l0 : List (S55))).bind fun y197 => (if 0 ≤ (wrap64 ((t190.length : Int) - 1)) then (if (wrap64 ((t190.length : Int) - 1)) < (y197.length : Int) then ((some (y197.set ((wrap64 ((t190.length : Int) - 1)) : Int).toNat (⟨(rd_T55 y197 (wrap64 ((t190.length : Int) - 1))).f0, mn ((rd_T55 y197 (wrap64 ((t190.length : Int) - 1))).f1) a2, (rd_T55 y197 (wrap64 ((t190.length : Int) - 1))).f2⟩ : S55) : List (S55))).bind fun y201 => (some ((y201.set ((wrap64 ((t190.length : Int) - 1)) : Int).toNat (⟨(rd_T55 y201 (wrap64 ((t190.length : Int) - 1))).f0, (rd_T55 y201 (wrap64 ((t190.length : Int) - 1))).f1, mx ((rd_T55 y201 (wrap64 ((t190.length : Int) - 1))).f2) a2⟩ : S55)), 0))) else (none)) else (none))) else (none)) = some (r1, r2) := by first | (rw [hy194]; with_reducible exact H) | (have H2_ := (Option.bind_some _ _).symm.trans H; rw [hy194]; with_reducible exact H2_) | (have H2_ := (Option.bind_some _ _).symm.trans H; with_reducible exact H2_) | with_reducible exact H | (rw [hy194]; exact H) | exact H
    have Ny194 := Aside0.mk hy194
    clear hy194
    by_cases c7 : y194.length + l0.length < 5864062014805
    · rw [if_pos c7] at H
      have LMc7 := Aside0.mk c7
      clear c7
      obtain ⟨y197, hy197⟩ : ∃ y_ : List (S55), y_ = (y194 ++ l0) := ⟨_, rfl⟩
      replace H : (if 0 ≤ (wrap64 ((t190.length : Int) - 1)) then (if (wrap64 ((t190.length : Int) - 1)) < (y197.length : Int) then ((some (y197.set ((wrap64 ((t190.length : Int) - 1)) : Int).toNat (⟨(rd_T55 y197 (wrap64 ((t190.length : Int) - 1))).f0, mn ((rd_T55 y197 (wrap64 ((t190.length : Int) - 1))).f1) a2, (rd_T55 y197 (wrap64 ((t190.length : Int) - 1))).f2⟩ : S55) : List (S55))).bind fun y201 => (some ((y201.set ((wrap64 ((t190.length : Int) - 1)) : Int).toNat (⟨(rd_T55 y201 (wrap64 ((t190.length : Int) - 1))).f0, (rd_T55 y201 (wrap64 ((t190.length : Int) - 1))).f1, mx ((rd_T55 y201 (wrap64 ((t190.length : Int) - 1))).f2) a2⟩ : S55)), 0))) else (none)) else (none)) = some (r1, r2) := by first | (rw [hy197]; with_reducible exact H) | (have H2_ := (Option.bind_some _ _).symm.trans H; rw [hy197]; with_reducible exact H2_) | (have H2_ := (Option.bind_some _ _).symm.trans H; with_reducible exact H2_) | with_reducible exact H | (rw [hy197]; exact H) | exact H
      have Ny197 := Aside0.mk hy197
      clear hy197
      obtain ⟨ji8, hji8⟩ : ∃ j_ : Int, (wrap64 ((t190.length : Int) - 1)) = j_ := ⟨_, rfl⟩
      replace H : (if 0 ≤ (ji8) then (if (ji8) < (y197.length : Int) then ((some (y197.set ((ji8) : Int).toNat (⟨(rd_T55 y197 (ji8)).f0, mn ((rd_T55 y197 (ji8)).f1) a2, (rd_T55 y197 (ji8)).f2⟩ : S55) : List (S55))).bind fun y201 => (some ((y201.set ((ji8) : Int).toNat (⟨(rd_T55 y201 (ji8)).f0, (rd_T55 y201 (ji8)).f1, mx ((rd_T55 y201 (ji8)).f2) a2⟩ : S55)), 0))) else (none)) else (none)) = some (r1, r2) := by first | (rw [hji8] at H; exact H) | (simp only [hji8] at H ⊢; exact H)
      (try rw [hji8] at A4)
      (try rw [hji8] at A5)
      have hji8w : (IntKind.i64.wrap ((t190.length : Int) - 1)) = ji8 := (i64_w _).trans hji8
      by_cases c9 : 0 ≤ (ji8)
      · rw [if_pos c9] at H
        have c9b0 : decide (0 ≤ (ji8)) = true := decide_eq_true c9
        clear c9
        by_cases c10 : (ji8) < (y197.length : Int)
        · rw [if_pos c10] at H
          have c10b0 : decide ((ji8) < (y197.length : Int)) = true := decide_eq_true c10
          clear c10
          obtain ⟨ji11, hji11⟩ : ∃ j_ : Int, (mn ((rd_T55 y197 (ji8)).f1) a2) = j_ := ⟨_, rfl⟩
          replace H : ((some (y197.set ((ji8) : Int).toNat (⟨(rd_T55 y197 (ji8)).f0, ji11, (rd_T55 y197 (ji8)).f2⟩ : S55) : List (S55))).bind fun y201 => (some ((y201.set ((ji8) : Int).toNat (⟨(rd_T55 y201 (ji8)).f0, (rd_T55 y201 (ji8)).f1, mx ((rd_T55 y201 (ji8)).f2) a2⟩ : S55)), 0))) = some (r1, r2) := by first | (rw [hji11] at H; exact H) | (simp only [hji11] at H ⊢; exact H)
          (try rw [hji11] at A4)
          (try rw [hji11] at A5)
          have hji11_ : (if a2 < ((rd_T55 y197 (ji8)).f1) then a2 else ((rd_T55 y197 (ji8)).f1)) = ji11 := hji11
          obtain ⟨y201, hy201⟩ : ∃ y_ : List (S55), y_ = (y197.set ((ji8) : Int).toNat (⟨(rd_T55 y197 (ji8)).f0, ji11, (rd_T55 y197 (ji8)).f2⟩ : S55)) := ⟨_, rfl⟩
          replace H : (some ((y201.set ((ji8) : Int).toNat (⟨(rd_T55 y201 (ji8)).f0, (rd_T55 y201 (ji8)).f1, mx ((rd_T55 y201 (ji8)).f2) a2⟩ : S55)), 0)) = some (r1, r2) := by first | (rw [hy201]; with_reducible exact H) | (have H2_ := (Option.bind_some _ _).symm.trans H; rw [hy201]; with_reducible exact H2_) | (have H2_ := (Option.bind_some _ _).symm.trans H; with_reducible exact H2_) | with_reducible exact H | (rw [hy201]; exact H) | exact H
          have Ny201 := Aside0.mk hy201
          clear hy201
          obtain ⟨ji13, hji13⟩ : ∃ j_ : Int, (mx ((rd_T55 y201 (ji8)).f2) a2) = j_ := ⟨_, rfl⟩
          replace H : (some ((y201.set ((ji8) : Int).toNat (⟨(rd_T55 y201 (ji8)).f0, (rd_T55 y201 (ji8)).f1, ji13⟩ : S55)), 0)) = some (r1, r2) := by first | (rw [hji13] at H; exact H) | (simp only [hji13] at H ⊢; exact H)
          (try rw [hji13] at A4)
          (try rw [hji13] at A5)
          have hji13_ : (if ((rd_T55 y201 (ji8)).f2) < a2 then a2 else ((rd_T55 y201 (ji8)).f2)) = ji13 := hji13
          obtain ⟨y203, hy203⟩ : ∃ y_ : List (S55), y_ = (y201.set ((ji8) : Int).toNat (⟨(rd_T55 y201 (ji8)).f0, (rd_T55 y201 (ji8)).f1, ji13⟩ : S55)) := ⟨_, rfl⟩
          replace H : (some (y203, 0)) = some (r1, r2) := by first | (rw [hy203]; with_reducible exact H) | (have H2_ := (Option.bind_some _ _).symm.trans H; rw [hy203]; with_reducible exact H2_) | (have H2_ := (Option.bind_some _ _).symm.trans H; with_reducible exact H2_) | with_reducible exact H | (rw [hy203]; exact H) | exact H
          have Ny203 := Aside0.mk hy203
          clear hy203
          simp only [Option.some.injEq, Prod.mk.injEq] at H
          obtain ⟨rfl, rfl⟩ := H
          go_enter Try.func37, Try.ntmps37
          go_wp2_with (first | ((with_reducible refine gate_callee (f := 62) rfl ?_); refine goesL_ (some 16) rfl rfl Try.func62 (by kernel_rfl) rfl #[.int .i64 a2] rfl (by (try simp only [List.map_toArray, List.map_cons, List.map_nil]); first | done | rfl | (simp only [List.length_drop, List.length_take]; rfl) | (go_simp; done) | (simp; done) | (simp; rfl)) ?_; (with_reducible refine (impl_isSide.calls a2 t189 _ A4.out).mono ?_); rintro e w' ⟨rfl, ⟨nd, rfl⟩⟩; refine ⟨_, rfl, ?_⟩) | ((with_reducible refine gate_callee (f := 55) rfl ?_); refine goesL_ (some 17) rfl rfl Try.func55 (by kernel_rfl) rfl #[.slice A0 l0.length c0, .int .i64 a1, .bool t189] rfl (by (try simp only [List.map_toArray, List.map_cons, List.map_nil]); first | done | rfl | (simp only [List.length_drop, List.length_take]; rfl) | (go_simp; done) | (simp; done) | (simp; rfl)) ?_; (with_reducible refine (layersTo_own k _ _ l0 a1 t189 t190 t191 _ ?side1 ?side2 A5.out).mono ?_); (case side1 => repeat (first | exact HR0.out | (with_reducible refine Kd.C_alloc ?_ _) | (with_reducible refine Kd.C_drewN ?_ _) | (with_reducible refine Kd.C_drew ?_))); (case side2 => exact HC0.out); rintro e w15 ⟨A1_, c1_, rfl, hC_, hcc_, hb⟩; refine ⟨_, rfl, ?_⟩; clear hC_ hcc_; have n1_ := Aside0.mk (below_step (by repeat (first | (with_reducible first | exact HB.out | apply below_alloc | apply pw_below_drewN | apply below_drew1) | exact HB.out)) hb); clear HB; have HB := n1_; clear n1_; (try clear hb); (try clear hb2); (try clear hk); (try clear hi); (try clear ho0)) | ((with_reducible refine gate_dst (N := 23) rfl ?_); refine Kd.R_lit k55 _ 55 ?hg (N := 23) ?hd (xs := ([] : List (S55))) (inner := []) (ok := fun _ => True) (okp := fun _ => True) ?hr ?hp (fun _ hk => hk) trivial (Below.refl _ _) (Nat.le_refl _) (by simp) ?_; (case hd => rfl); (case hg => rfl); (case hr => first | (go_simp; done) | (go_simp; rfl)); (case hp => exact (Reps.none _ _)); intro v195 w16 ho17 hb hg_ hnew_; clear hg_ hnew_; (first | rw [← Ny194.out] at ho17 | (simp only [Int.reduceToNat] at ho17; rw [← Ny194.out] at ho17)); have n1_ := Aside0.mk (Kd.R_lower (ho17) (below_size (by repeat (first | (with_reducible first | exact HB.out | apply below_alloc | apply pw_below_drewN | apply below_drew1) | exact HB.out)))); have n2_ := Aside0.mk (below_step (by repeat (first | (with_reducible first | exact HB.out | apply below_alloc | apply pw_below_drewN | apply below_drew1) | exact HB.out)) hb); clear HB; have HO196 := n1_; have HB := n2_; (try clear n0_); clear n1_ n2_; clear hb ho17) | ((with_reducible refine gate_builtin (b := .append) (xs := #[.tmp 23, .tmp 24]) rfl ?_); at_builtin; refine Kd.R_append_rows k55 (w0 := w) w.heap.size rfl (.tmp 23) (.tmp 24) 25 55 (.agg #[(.int .i64 0), (.int .i64 0), (.int .i64 0)]) 24 rfl Try.underlying25 info55 rfl (by decide) (by omega) v195 y194 l0 _ _ _ (fun _ => True) (fun _ => False) rfl rfl ?aO ?aR (fun _ _ h => h) (fun _ h => h.elim) ?aF ?aB ?aS ?aL ?_; (case aR => repeat (first | exact (Kd.C_below HR0.out HB.out) | (with_reducible refine Kd.C_alloc ?_ _) | (with_reducible refine Kd.C_drewN ?_ _) | (with_reducible refine Kd.C_drew ?_))); (case aB => exact (by repeat (first | (with_reducible first | exact HB.out | apply below_alloc | apply pw_below_drewN | apply below_drew1) | exact HB.out))); (case aF => exact (fun _ _ => trivial)); (case aO => exact (by (with_reducible repeat (first | apply Kd.R_alloc | apply Kd.R_drewN | apply Kd.R_drew)); first | exact HO196.out | exact Kd.R_mono HO196.out (fun _ hk => trivial))); (case aS => exact (below_size (by repeat (first | (with_reducible first | exact HB.out | apply below_alloc | apply pw_below_drewN | apply below_drew1) | exact HB.out)))); (case aL => have := LMc7.out; omega); intro v198 w18 ho hb hg hat; rw [← Ny197.out] at ho; have n1_ := Aside0.mk (hb); have n2_ := Aside0.mk (ho); clear HB; clear HO196; have HB := n1_; have HO199 := n2_; (try clear n0_); clear n1_ n2_; clear ho hb hg hat; obtain ⟨Ao20, co20, eo20⟩ := Kd.R_slice HO199.out; subst eo20; have p200 : 0 ≤ ((ji8) : Int) := of_decide_eq_true (by first | (with_reducible assumption) | assumption); have q200 : (ji8) < (y197.length : Int) := of_decide_eq_true (by first | (with_reducible assumption) | assumption); obtain ⟨ad200, e200, hx200_0, hx200_1, hx200_2⟩ := at_T55 (Kd.R_reads' HO199.out).2.2 (ji8) p200 q200; cases e200; replace p200 := eq_true p200; replace q200 := eq_true q200; have p12 : 0 ≤ ((ji8) : Int) := of_decide_eq_true (by first | (with_reducible assumption) | assumption); have q12 : ((ji8) : Int) < ((y197.length : Int) : Int) := of_decide_eq_true (by first | (with_reducible assumption) | assumption); obtain ⟨go12, co12, eo12, gb12, gl12, cl12, HG12⟩ := Kd.R_form HO199.out (by omega); (first | cases eo12 | (injection eo12 with ea_ en_ ec_; (first | subst ea_ | (injection ea_ with ea_; subst ea_)); subst ec_; clear en_)); have GB12 := Aside0.mk gb12; have GG12 := Aside0.mk HG12; clear gb12 gl12 HG12; (first | simp only [add_plain] at hx200_0 | skip); (first | simp only [add_plain] at hx200_1 | skip); (first | simp only [add_plain] at hx200_2 | skip); obtain ⟨ce12, hcl12, hM12, hcc12, hfr12⟩ := Kd.R_elem HO199.out z55 ((ji8) : Int) p12 q12; obtain rfl := k55_openM hM12; have hx12_0 : w18.cell? ⟨go12, ((ji8) : Int).toNat * 3, none⟩ = some (.int .i64 ((rd_T55 y197 (ji8)).f0)) := hcc12 0 _ rfl; have hx12_1 : w18.cell? ⟨go12, ((ji8) : Int).toNat * 3 + 1, none⟩ = some (.int .i64 ((rd_T55 y197 (ji8)).f1)) := hcc12 1 _ rfl; have hx12_2 : w18.cell? ⟨go12, ((ji8) : Int).toNat * 3 + 2, none⟩ = some (.int .i64 ((rd_T55 y197 (ji8)).f2)) := hcc12 2 _ rfl; have hf12_0 : w18.frozen? ⟨go12, ((ji8) : Int).toNat * 3, none⟩ = false := hfr12 0; have hf12_1 : w18.frozen? ⟨go12, ((ji8) : Int).toNat * 3 + 1, none⟩ = false := hfr12 1; have hf12_2 : w18.frozen? ⟨go12, ((ji8) : Int).toNat * 3 + 2, none⟩ = false := hfr12 2; clear hcl12 hcc12 hfr12 hM12; replace p12 := eq_true p12; replace q12 := eq_true q12; have HX21 := Aside0.mk (show Kd.R k55 55 w18 w.heap.size (fun _ => True) (.slice (some ⟨go12, 0, none⟩) y197.length co20) y197 from (by (with_reducible repeat (first | apply Kd.R_alloc | apply Kd.R_drewN | apply Kd.R_drew)); exact HO199.out)); obtain ⟨ce21, hcl21, hM21, hcc21, hfr21⟩ := Kd.R_elem HX21.out z55 ((ji8) : Int) (of_decide_eq_true (by first | (with_reducible assumption) | assumption)) (by have h_ : ((ji8) : Int) < ((y197.length : Int) : Int) := of_decide_eq_true (by first | (with_reducible assumption) | assumption); first | exact h_ | (have e_ := (Kd.R_reads' HO199.out).1; omega) | simpa using h_); obtain rfl := k55_openM hM21; have HP21 := Kd.R_seg HX21.out ((ji8) : Int) (of_decide_eq_true (by first | (with_reducible assumption) | assumption)) (by have h_ : ((ji8) : Int) < ((y197.length : Int) : Int) := of_decide_eq_true (by first | (with_reducible assumption) | assumption); first | exact h_ | (have e_ := (Kd.R_reads' HO199.out).1; omega) | simpa using h_) (seg := [.int .i64 ji11]) (j := 1) hcl21 hcc21 (show 2 ≤ 3 from by decide) (x' := (⟨(rd_T55 y197 (ji8)).f0, ji11, (rd_T55 y197 (ji8)).f2⟩ : S55)) (k55_mkM _ _ _ (⟨(rd_T55 y197 (ji8)).f0, ji11, (rd_T55 y197 (ji8)).f2⟩ : S55) ) (fun _ hk => hk); have hx21_1 := hcc21 1 _ rfl; (try simp only [show (k55).sz = 3 from rfl, Nat.mul_one, Nat.add_zero] at hx21_1); have hf21_1 := hfr21 1; (try simp only [show (k55).sz = 3 from rfl, Nat.mul_one, Nat.add_zero] at hf21_1); clear hcl21 hcc21 hfr21 hM21) | ((with_reducible refine gate_store (t := 2) (p := 39) rfl ?_); refine store_event (t := 2) (p := 39) (v := ?vo_w22) (w1 := (w18.setCell ⟨go12, ((ji8) : Int).toNat * 3 + 1, none⟩ (.int .i64 ji11))) ?hg ?ho ?hn ?hr ?_; (case ho => rfl); (case hg => rfl); (case hn => rfl); (case hr => first | (go_simp; done) | (go_simp; rfl)); intro w22 hw; have hg : w18.grownBy w22 (some go12) := (by rw [hw]; exact HP21.2); have hp_ : Kd.R k55 55 w22 w.heap.size (fun _ => True) (.slice (some ⟨go12, 0, none⟩) y197.length co20) y201 := (by rw [hw, Ny201.out]; exact HP21.1); clear HP21; have n1_ := Aside0.mk (hp_); have n2_ := Aside0.mk ((by rw [hw]; exact below_set (HB.out) GB12.out : Below w.heap.size w w22)); clear HO199; clear HB; have HO199 := n1_; have HB := n2_; (try clear n0_); clear n1_ n2_; clear hg hw hp_; have p202 : 0 ≤ ((ji8) : Int) := of_decide_eq_true (by first | (with_reducible assumption) | assumption); have q202 : (ji8) < (y201.length : Int) := (by have h_ : ((ji8) : Int) < ((y197.length : Int) : Int) := of_decide_eq_true (by first | (with_reducible assumption) | assumption); first | (have e_ := (Kd.R_reads' HO199.out).1; omega) | simpa only [Ny201.out, List.length_set] using h_); have ql202 : (((ji8) : Int) < ((y197.length : Int) : Int)) = True := eq_true (of_decide_eq_true (by first | (with_reducible assumption) | assumption)); obtain ⟨ad202, e202, hx202_0, hx202_1, hx202_2⟩ := at_T55 (Kd.R_reads' HO199.out).2.2 (ji8) p202 q202; obtain rfl : (⟨go12, 0, none⟩ : Addr) = ad202 := (by injection e202); (first | simp only [add_plain] at hx202_0 | simp only [add_at] at hx202_0 | simp only [Addr.add, Nat.zero_add] at hx202_0 | skip); (first | simp only [add_plain] at hx202_1 | simp only [add_at] at hx202_1 | simp only [Addr.add, Nat.zero_add] at hx202_1 | skip); (first | simp only [add_plain] at hx202_2 | simp only [add_at] at hx202_2 | simp only [Addr.add, Nat.zero_add] at hx202_2 | skip); replace p202 := eq_true p202; replace q202 := eq_true q202; have p14 : 0 ≤ ((ji8) : Int) := of_decide_eq_true (by first | (with_reducible assumption) | assumption); have q14 : ((ji8) : Int) < ((y197.length : Int) : Int) := of_decide_eq_true (by first | (with_reducible assumption) | assumption); obtain ⟨ce14, hcl14, hM14, hcc14, hfr14⟩ := Kd.R_elem HO199.out z55 ((ji8) : Int) p14 q14; obtain rfl := k55_openM hM14; have hx14_0 : w22.cell? ⟨go12, ((ji8) : Int).toNat * 3, none⟩ = some (.int .i64 ((rd_T55 y201 (ji8)).f0)) := hcc14 0 _ rfl; have hx14_1 : w22.cell? ⟨go12, ((ji8) : Int).toNat * 3 + 1, none⟩ = some (.int .i64 ((rd_T55 y201 (ji8)).f1)) := hcc14 1 _ rfl; have hx14_2 : w22.cell? ⟨go12, ((ji8) : Int).toNat * 3 + 2, none⟩ = some (.int .i64 ((rd_T55 y201 (ji8)).f2)) := hcc14 2 _ rfl; have hf14_0 : w22.frozen? ⟨go12, ((ji8) : Int).toNat * 3, none⟩ = false := hfr14 0; have hf14_1 : w22.frozen? ⟨go12, ((ji8) : Int).toNat * 3 + 1, none⟩ = false := hfr14 1; have hf14_2 : w22.frozen? ⟨go12, ((ji8) : Int).toNat * 3 + 2, none⟩ = false := hfr14 2; clear hcl14 hcc14 hfr14 hM14; replace p14 := eq_true p14; replace q14 := eq_true q14; have HX23 := Aside0.mk (show Kd.R k55 55 w22 w.heap.size (fun _ => True) (.slice (some ⟨go12, 0, none⟩) y197.length co20) y201 from (by (with_reducible repeat (first | apply Kd.R_alloc | apply Kd.R_drewN | apply Kd.R_drew)); exact HO199.out)); obtain ⟨ce23, hcl23, hM23, hcc23, hfr23⟩ := Kd.R_elem HX23.out z55 ((ji8) : Int) (of_decide_eq_true (by first | (with_reducible assumption) | assumption)) (by have h_ : ((ji8) : Int) < ((y197.length : Int) : Int) := of_decide_eq_true (by first | (with_reducible assumption) | assumption); first | exact h_ | (have e_ := (Kd.R_reads' HO199.out).1; omega) | simpa using h_); obtain rfl := k55_openM hM23; have HP23 := Kd.R_seg HX23.out ((ji8) : Int) (of_decide_eq_true (by first | (with_reducible assumption) | assumption)) (by have h_ : ((ji8) : Int) < ((y197.length : Int) : Int) := of_decide_eq_true (by first | (with_reducible assumption) | assumption); first | exact h_ | (have e_ := (Kd.R_reads' HO199.out).1; omega) | simpa using h_) (seg := [.int .i64 ji13]) (j := 2) hcl23 hcc23 (show 3 ≤ 3 from by decide) (x' := (⟨(rd_T55 y201 (ji8)).f0, (rd_T55 y201 (ji8)).f1, ji13⟩ : S55)) (k55_mkM _ _ _ (⟨(rd_T55 y201 (ji8)).f0, (rd_T55 y201 (ji8)).f1, ji13⟩ : S55) ) (fun _ hk => hk); have hx23_2 := hcc23 2 _ rfl; (try simp only [show (k55).sz = 3 from rfl, Nat.mul_one, Nat.add_zero] at hx23_2); have hf23_2 := hfr23 2; (try simp only [show (k55).sz = 3 from rfl, Nat.mul_one, Nat.add_zero] at hf23_2); clear hcl23 hcc23 hfr23 hM23) | ((with_reducible refine gate_store (t := 2) (p := 50) rfl ?_); refine store_event (t := 2) (p := 50) (v := ?vo_w24) (w1 := (w22.setCell ⟨go12, ((ji8) : Int).toNat * 3 + 2, none⟩ (.int .i64 ji13))) ?hg ?ho ?hn ?hr ?_; (case ho => rfl); (case hg => rfl); (case hn => rfl); (case hr => first | (go_simp; done) | (go_simp; rfl)); intro w24 hw; have hg : w22.grownBy w24 (some go12) := (by rw [hw]; exact HP23.2); have hp_ : Kd.R k55 55 w24 w.heap.size (fun _ => True) (.slice (some ⟨go12, 0, none⟩) y197.length co20) y203 := (by rw [hw, Ny203.out]; exact HP23.1); clear HP23; have n1_ := Aside0.mk (hp_); have n2_ := Aside0.mk ((by rw [hw]; exact below_set (HB.out) GB12.out : Below w.heap.size w w24)); clear HO199; clear HB; have HO199 := n1_; have HB := n2_; (try clear n0_); clear n1_ n2_; clear hg hw hp_))
          go_ret2
          exact ⟨_, by first | rfl | (simp [errW_none, errW_some] <;> rfl) | (simp only [← hji8, ← hji11, ← hji13]; first | rfl | (simp [errW_none, errW_some] <;> rfl)) | (simp [*, errW_none, errW_some] <;> rfl), by (with_reducible repeat (first | apply Kd.R_alloc | apply Kd.R_drewN | apply Kd.R_drew)); first | exact HO199.out | exact Kd.R_mono HO199.out (fun _ hk => trivial), by repeat (first | (with_reducible first | exact HB.out | apply below_alloc | apply pw_below_drewN | apply below_drew1) | exact HB.out)⟩
        · rw [if_neg c10] at H
          exact absurd H (by simp)
      · rw [if_neg c9] at H
        exact absurd H (by simp)
    · rw [if_neg c7] at H
      exact absurd H (by simp)
  · rw [if_neg c6] at H
    have c6b0 : (t191 == 0) = false := beq_eq_false_iff_ne.mpr c6
    have c6b1 : (t191 != 0) = true := bne_iff_ne.mpr c6
    simp only [Option.some.injEq, Prod.mk.injEq] at H
    obtain ⟨rfl, rfl⟩ := H
    go_enter Try.func37, Try.ntmps37
    go_wp2_with (first | ((with_reducible refine gate_callee (f := 62) rfl ?_); refine goesL_ (some 16) rfl rfl Try.func62 (by kernel_rfl) rfl #[.int .i64 a2] rfl (by (try simp only [List.map_toArray, List.map_cons, List.map_nil]); first | done | rfl | (simp only [List.length_drop, List.length_take]; rfl) | (go_simp; done) | (simp; done) | (simp; rfl)) ?_; (with_reducible refine (impl_isSide.calls a2 t189 _ A4.out).mono ?_); rintro e w' ⟨rfl, ⟨nd, rfl⟩⟩; refine ⟨_, rfl, ?_⟩) | ((with_reducible refine gate_callee (f := 55) rfl ?_); refine goesL_ (some 17) rfl rfl Try.func55 (by kernel_rfl) rfl #[.slice A0 l0.length c0, .int .i64 a1, .bool t189] rfl (by (try simp only [List.map_toArray, List.map_cons, List.map_nil]); first | done | rfl | (simp only [List.length_drop, List.length_take]; rfl) | (go_simp; done) | (simp; done) | (simp; rfl)) ?_; (with_reducible refine (layersTo_own k _ _ l0 a1 t189 t190 t191 _ ?side1 ?side2 A5.out).mono ?_); (case side1 => repeat (first | exact HR0.out | (with_reducible refine Kd.C_alloc ?_ _) | (with_reducible refine Kd.C_drewN ?_ _) | (with_reducible refine Kd.C_drew ?_))); (case side2 => exact HC0.out); rintro e w25 ⟨A1_, c1_, rfl, hC_, hcc_, hb⟩; refine ⟨_, rfl, ?_⟩; clear hC_ hcc_; have n1_ := Aside0.mk (below_step (by repeat (first | (with_reducible first | exact HB.out | apply below_alloc | apply pw_below_drewN | apply below_drew1) | exact HB.out)) hb); clear HB; have HB := n1_; clear n1_; (try clear hb); (try clear hb2); (try clear hk); (try clear hi); (try clear ho0)))
    go_ret2
    exact ⟨_, by first | rfl | (simp [errW_none, errW_some] <;> rfl) | (simp [*, errW_none, errW_some] <;> rfl), by first | exact Kd.R_nil _ _ _ _ _ | exact Kd.N_nil _ _ _ _ _ | exact Kd.V_nil _ _ _ _ _ | exact Kd.Q_nil _ _ _ _ _ | exact Kd.S_nil _ _ _ _ _, by repeat (first | (with_reducible first | exact HB.out | apply below_alloc | apply pw_below_drewN | apply below_drew1) | exact HB.out)⟩

end Go.Proofs.Ytidibjmckgbpbaa.QFnExactWidenWind
