-- Written by a program of this project's session, after the kit's print (a turned copy of its programs). Lean checks it.
import Derived.Test.YtmepklccbogibaaQFnOrdersx0
import Derived.Test.YtmepklccbogibaaQFnOrdersx3
import Derived.Test.YtmepklccbogibaaQFnOrdersx5
namespace Go.Proofs.Ytmepklccbogibaa.QFnOrders
open Go.RowKit Go.Proofs.YtmepklccbogibaaW.PrintWords Go.Proofs.YtmepklccbogibaaW.PrintLast Go.Proofs.YtmepklccbogibaaW.PrintMore
attribute [local go_sem] max2_int min2_int max_two min_two max_three min_three max_four min_four   -- for this text's walks alone
set_option linter.unusedVariables false
set_option linter.unusedSimpArgs false

/-! ### impl_allWithin: function 96 -/
def impl_allWithin.l0 : Nat → Int → Int → List Int → Int → Int → Option (Bool)
 | 0, _, _, _, _, _ => none
 | k + 1, x1, x2, x9, x10, x11 => if x11 < x10 then (if 0 ≤ x11 then (if x11 < (x9.length : Int) then ((impl_within.f (rd x9 x11) x1 x2).bind fun t151 => (if t151 = true then (impl_allWithin.l0 k x1 x2 x9 x10 (wrap64 (x11 + 1))) else (some false))) else (none)) else (none)) else (some true)
def impl_allWithin.f (k : Nat) (l0 : List Int) (a1 : Int) (a2 : Int) : Option (Bool) := impl_allWithin.l0 k a1 a2 l0 (l0.length : Int) 0
theorem impl_allWithin.mono_l : ∀ k, (∀ y0 y1 y2 y3 y4, LeO (impl_allWithin.l0 k y0 y1 y2 y3 y4) (impl_allWithin.l0 (k + 1) y0 y1 y2 y3 y4))
 | 0 => fun _ _ _ _ _ r h => by simp [impl_allWithin.l0] at h
 | k + 1 => by
  have ih0 := impl_allWithin.mono_l k
  ·
   intro y0 y1 y2 y3 y4
   unfold impl_allWithin.l0
   repeat' first
   | (with_reducible exact ih0 _ _ _ _ _)
   | (with_reducible exact LeO.refl _)
   | (with_reducible exact LeO.none _)
   | (with_reducible refine LeO.ite ?_ ?_)
   | (with_reducible refine LeO.bind ?_ (fun _ => ?_))
   | exact ih0 _ _ _ _ _
   | exact LeO.none _
   | refine LeO.ite ?_ ?_
   | refine LeO.bind ?_ (fun _ => ?_)
theorem impl_allWithin.mono : ∀ a0 a1 a2 k, LeO (impl_allWithin.f k a0 a1 a2) (impl_allWithin.f (k + 1) a0 a1 a2) := by
 intro a0 a1 a2 k
 have ih0 := impl_allWithin.mono_l k
 unfold impl_allWithin.f
 repeat' first
   | (with_reducible exact ih0 _ _ _ _ _)
   | (with_reducible exact LeO.refl _)
   | (with_reducible exact LeO.none _)
   | (with_reducible refine LeO.ite ?_ ?_)
   | (with_reducible refine LeO.bind ?_ (fun _ => ?_))
   | exact ih0 _ _ _ _ _
   | exact LeO.none _
   | refine LeO.ite ?_ ?_
   | refine LeO.bind ?_ (fun _ => ?_)
set_option maxHeartbeats 40000000 in
set_option maxRecDepth 100000 in
theorem impl_allWithin.calls (k : Nat) (A0 : Option Addr) (c0 : Nat) (l0 : List Int) (a1 : Int) (a2 : Int) (r : Bool) (w : World) (hr0 : Kd.C (Kd.int .i64) w A0 l0.length l0) (hc0 : l0.length ≤ c0) (h : impl_allWithin.f k l0 a1 a2 = some r) :
  Calls Try.prog 96 #[.slice A0 l0.length c0, .int .i64 a1, .int .i64 a2] w fun e w' => e = .returned (.bool r) ∧ Drawn0 w w' := by
 have HR0 := Aside0.mk hr0
 have HC0 := Aside0.mk hc0
 clear hr0 hc0
 have H : (impl_allWithin.l0 k a1 a2 l0 (l0.length : Int) 0) = some r := h
 clear h
 have H' := Aside0.mk H
 clear H
 go_enter Try.func96, Try.ntmps96
 go_wp2
 go_loopg [11] k (fun kq v11 w' => ∃ (x11_1 : Int), v11 = .int .i64 x11_1 ∧ Aside0 (impl_allWithin.l0 kq a1 a2 l0 (l0.length : Int) x11_1 = some r) ∧ Aside0 (kq ≤ k) ∧ Drawn0 w w')
 case atStart => exact ⟨(0), (by first | rfl | (simp; done) | (simp [*]; done)), H', ⟨Nat.le_refl _⟩, by repeat (first | exact Drawn0.refl _ | apply Drawn0.step)⟩
 case round =>
  clear H'
  try clear p2
  obtain ⟨x11_1, rfl, HA, HK1, ⟨m1, rfl⟩⟩ := hrel
  cases gk with
  | zero => exact absurd HA.out (by simp [impl_allWithin.l0])
  | succ k1 =>
   have H := HA.out
   clear HA
   simp only [impl_allWithin.l0] at H
   by_cases c4 : x11_1 < (l0.length : Int)
   ·
    rw [if_pos c4] at H
    have c4b0 : decide (x11_1 < (l0.length : Int)) = true := decide_eq_true c4
    clear c4
    by_cases c5 : 0 ≤ x11_1
    ·
     rw [if_pos c5] at H
     have c5b0 : decide (0 ≤ x11_1) = true := decide_eq_true c5
     clear c5
     by_cases c6 : x11_1 < (l0.length : Int)
     ·
      rw [if_pos c6] at H
      have c6b0 : decide (x11_1 < (l0.length : Int)) = true := decide_eq_true c6
      clear c6
      replace H := Option.bind_eq_some_iff.mp H
      obtain ⟨t151, A70, H⟩ := H
      replace H : (if t151 = true then (impl_allWithin.l0 k1 a1 a2 l0 (l0.length : Int) (wrap64 (x11_1 + 1))) else (some false)) = some r := H
      have A7 := Aside0.mk A70
      clear A70
      by_cases c8 : t151 = true
      ·
       subst c8
       have H1 : (impl_allWithin.l0 k1 a1 a2 l0 (l0.length : Int) (wrap64 (x11_1 + 1))) = some r := by rw [if_pos rfl] at H; exact H
       clear H
       have H := H1
       clear H1
       have H' := Aside0.mk H
       clear H
       have p150 : 0 ≤ (x11_1 : Int) := of_decide_eq_true (by with_reducible assumption)
       have q150 : x11_1 < (l0.length : Int) := of_decide_eq_true (by with_reducible assumption)
       obtain ⟨ad150, e150, hx150_0⟩ := Kd.at_int HR0.out x11_1 p150 q150
       cases e150
       replace p150 := eq_true p150
       replace q150 := eq_true q150
       go_wp2_with (first | ((with_reducible refine gate_callee (f := 62) rfl ?_); refine goesL_ (some 18) rfl rfl Try.func62 (by kernel_rfl) rfl #[.int .i64 (rd l0 x11_1), .int .i64 a1, .int .i64 a2] rfl (by (try simp only [List.map_toArray, List.map_cons, List.map_nil]); first | done | rfl | (go_simp; done) | simp) ?_; (with_reducible refine (impl_within.calls (rd l0 x11_1) a1 a2 true _ A7.out).mono ?_); rintro e w' ⟨rfl, ⟨nd, rfl⟩⟩; refine ⟨_, rfl, ?_⟩))
       go_roundg k1
       case measure => have := HK1.out; omega
       case rel => exact ⟨(wrap64 (x11_1 + 1)), (by first | rfl | (simp; done) | (simp [*]; done)), H', ⟨by have := HK1.out; omega⟩, by repeat (first | exact Drawn0.refl _ | apply Drawn0.step)⟩
      ·
       replace c8 := Bool.eq_false_iff.mpr c8
       subst c8
       have H1 : (some false) = some r := by rw [if_neg (show ¬ (false = true) by decide)] at H; exact H
       clear H
       have H := H1
       clear H1
       obtain rfl := Option.some.inj H
       simp only [Option.some.injEq, Prod.mk.injEq] at H
       obtain ⟨rfl⟩ := H
       have p150 : 0 ≤ (x11_1 : Int) := of_decide_eq_true (by with_reducible assumption)
       have q150 : x11_1 < (l0.length : Int) := of_decide_eq_true (by with_reducible assumption)
       obtain ⟨ad150, e150, hx150_0⟩ := Kd.at_int HR0.out x11_1 p150 q150
       cases e150
       replace p150 := eq_true p150
       replace q150 := eq_true q150
       go_wp2_with (first | ((with_reducible refine gate_callee (f := 62) rfl ?_); refine goesL_ (some 18) rfl rfl Try.func62 (by kernel_rfl) rfl #[.int .i64 (rd l0 x11_1), .int .i64 a1, .int .i64 a2] rfl (by (try simp only [List.map_toArray, List.map_cons, List.map_nil]); first | done | rfl | (go_simp; done) | simp) ?_; (with_reducible refine (impl_within.calls (rd l0 x11_1) a1 a2 false _ A7.out).mono ?_); rintro e w' ⟨rfl, ⟨nd, rfl⟩⟩; refine ⟨_, rfl, ?_⟩))
       go_ret
       exact ⟨by first | rfl | (simp; done) | (simp [*]; done), by repeat (first | exact Drawn0.refl _ | apply Drawn0.step)⟩
     ·
      rw [if_neg c6] at H
      exact absurd H (by simp)
    ·
     rw [if_neg c5] at H
     exact absurd H (by simp)
   ·
    rw [if_neg c4] at H
    have c4b0 : decide (x11_1 < (l0.length : Int)) = false := decide_eq_false c4
    clear c4
    obtain rfl := Option.some.inj H
    simp only [Option.some.injEq, Prod.mk.injEq] at H
    obtain ⟨rfl⟩ := H
    go_wp2
    go_ret
    exact ⟨by first | rfl | (simp; done) | (simp [*]; done), by repeat (first | exact Drawn0.refl _ | apply Drawn0.step)⟩

/-! ### impl_areCounts: function 80 -/
def impl_areCounts.f (k : Nat) (l0 : List (S26)) (l1 : List Int) : Option (Bool) := if (l1.length : Int) = (l0.length : Int) then ((impl_allWithin.f k l1 0 1000).bind fun t152 => (some t152)) else (some false)
theorem impl_areCounts.mono : ∀ a0 a1 k, LeO (impl_areCounts.f k a0 a1) (impl_areCounts.f (k + 1) a0 a1) := by
 intro a0 a1 k
 unfold impl_areCounts.f
 repeat' first
   | (with_reducible exact impl_allWithin.mono _ _ _ _)
   | (with_reducible exact LeO.refl _)
   | (with_reducible exact LeO.none _)
   | (with_reducible refine LeO.ite ?_ ?_)
   | (with_reducible refine LeO.bind ?_ (fun _ => ?_))
   | exact impl_allWithin.mono _ _ _ _
   | exact LeO.none _
   | refine LeO.ite ?_ ?_
   | refine LeO.bind ?_ (fun _ => ?_)
set_option maxHeartbeats 40000000 in
set_option maxRecDepth 100000 in
theorem impl_areCounts.calls (k : Nat) (A0 : Option Addr) (c0 : Nat) (l0 : List (S26)) (A1 : Option Addr) (c1 : Nat) (l1 : List Int) (r : Bool) (w : World) (hr0 : Kd.C k26 w A0 l0.length l0) (hc0 : l0.length ≤ c0) (hr1 : Kd.C (Kd.int .i64) w A1 l1.length l1) (hc1 : l1.length ≤ c1) (h : impl_areCounts.f k l0 l1 = some r) :
  Calls Try.prog 80 #[.slice A0 l0.length c0, .slice A1 l1.length c1] w fun e w' => e = .returned (.bool r) ∧ Drawn0 w w' := by
 have HR0 := Aside0.mk hr0
 have HC0 := Aside0.mk hc0
 clear hr0 hc0
 have HR1 := Aside0.mk hr1
 have HC1 := Aside0.mk hc1
 clear hr1 hc1
 have H : (if (l1.length : Int) = (l0.length : Int) then ((impl_allWithin.f k l1 0 1000).bind fun t152 => (some t152)) else (some false)) = some r := h
 clear h
 by_cases c3 : (l1.length : Int) = (l0.length : Int)
 ·
  rw [if_pos c3] at H
  have c3b0 : ((l1.length : Int) == (l0.length : Int)) = true := beq_iff_eq.mpr c3
  have c3b1 : ((l1.length : Int) != (l0.length : Int)) = false := bne_eq_false_iff_eq.mpr c3
  have c3b2 : (l1.length == l0.length) = true := by first | simpa using c3 | (simp at c3 ⊢; omega)
  clear c3
  replace H := Option.bind_eq_some_iff.mp H
  obtain ⟨t152, A40, H⟩ := H
  replace H : (some t152) = some r := H
  have A4 := Aside0.mk A40
  clear A40
  obtain rfl := Option.some.inj H
  simp only [Option.some.injEq, Prod.mk.injEq] at H
  obtain ⟨rfl⟩ := H
  go_enter Try.func80, Try.ntmps80
  go_wp2_with (first | (go_at_call 96; (with_reducible refine (impl_allWithin.calls k _ _ l1 0 1000 t152 _ ?side1 ?side2 A4.out).mono ?_); (case side1 => repeat (first | exact HR1.out | (with_reducible first | apply cA | apply cN | apply cD))); (case side2 => exact HC1.out); rintro e w' ⟨rfl, ⟨nd, rfl⟩⟩))
  go_ret
  exact ⟨by first | rfl | (simp; done) | (simp [*]; done), by repeat (first | exact Drawn0.refl _ | apply Drawn0.step)⟩
 ·
  rw [if_neg c3] at H
  have c3b0 : ((l1.length : Int) == (l0.length : Int)) = false := beq_eq_false_iff_ne.mpr c3
  have c3b1 : ((l1.length : Int) != (l0.length : Int)) = true := bne_iff_ne.mpr c3
  have c3b2 : (l1.length == l0.length) = false := by first | simpa using c3 | (simp at c3 ⊢; omega)
  obtain rfl := Option.some.inj H
  simp only [Option.some.injEq, Prod.mk.injEq] at H
  obtain ⟨rfl⟩ := H
  go_enter Try.func80, Try.ntmps80
  go_wp2
  go_ret
  exact ⟨by first | rfl | (simp; done) | (simp [*]; done), by repeat (first | exact Drawn0.refl _ | apply Drawn0.step)⟩

/-! ### impl_MixedGroups: function 32 -/
def mgI1 : Nat → Bool → Bool → Bool → Bool → List Int → Int → Option (List Int)
 | 0, _, _, _, _, _, _ => none
 | k + 1, a, b, c, d, out, x => if x < 4 then (if x = 0 then (if a = true then (if out.length < 17592186044416 then mgI1 k a b c d (out ++ [0]) (wrap64 (0 + 1)) else none) else mgI1 k a b c d out (wrap64 (0 + 1))) else (if x = 1 then (if b = true then (if out.length < 17592186044416 then mgI1 k a b c d (out ++ [1]) (wrap64 (1 + 1)) else none) else mgI1 k a b c d out (wrap64 (1 + 1))) else (if x = 2 then (if c = true then (if out.length < 17592186044416 then mgI1 k a b c d (out ++ [2]) (wrap64 (2 + 1)) else none) else mgI1 k a b c d out (wrap64 (2 + 1))) else (if x = 3 then (if d = true then (if out.length < 17592186044416 then mgI1 k a b c d (out ++ [3]) (wrap64 (3 + 1)) else none) else mgI1 k a b c d out (wrap64 (3 + 1))) else none)))) else some out
def mgI0 : Nat → List S26 → List Int → Bool → Bool → Bool → Bool → Int → Option (List Int)
 | 0, _, _, _, _, _, _, _ => none
 | k + 1, l, m, a, b, c, d, i => if i < (l.length : Int) then (if 0 ≤ i ∧ i < (m.length : Int) then (if rd m i > 0 then (if (rd_T26 l i).f8 = 0 then mgI0 k l m true b c d (wrap64 (i + 1)) else (if (rd_T26 l i).f8 = 1 then mgI0 k l m a true c d (wrap64 (i + 1)) else (if (rd_T26 l i).f8 = 2 then mgI0 k l m a b true d (wrap64 (i + 1)) else (if (rd_T26 l i).f8 = 3 then mgI0 k l m a b c true (wrap64 (i + 1)) else none)))) else mgI0 k l m a b c d (wrap64 (i + 1))) else none) else mgI1 k a b c d [] 0
def impl_MixedGroups.f (k : Nat) (l0 : List S26) (l1 : List Int) : Option (List Int × Int) := (impl_AreArticles.f k l0).bind fun t => (if t = true then ((impl_areCounts.f k l0 l1).bind fun u => (if u = true then ((mgI0 k l0 l1 false false false false 0).bind fun y => (some (y, 0))) else (some (([] : List Int), 2)))) else (some (([] : List Int), 1)))
theorem mgI1_mono : ∀ k, ∀ a b c d out x, LeO (mgI1 k a b c d out x) (mgI1 (k + 1) a b c d out x)
 | 0 => fun _ _ _ _ _ _ r h => by simp [mgI1] at h
 | k + 1 => by
  have ih := mgI1_mono k
  intro a b c d out x
  unfold mgI1
  repeat' first
   | (with_reducible exact ih _ _ _ _ _ _)
   | (with_reducible exact LeO.refl _)
   | (with_reducible exact LeO.none _)
   | (with_reducible refine LeO.ite ?_ ?_)
   | (with_reducible refine LeO.bind ?_ (fun _ => ?_))
theorem mgI0_mono : ∀ k, ∀ l m a b c d i, LeO (mgI0 k l m a b c d i) (mgI0 (k + 1) l m a b c d i)
 | 0 => fun _ _ _ _ _ _ _ r h => by simp [mgI0] at h
 | k + 1 => by
  have ih := mgI0_mono k
  intro l m a b c d i
  unfold mgI0
  repeat' first
   | (with_reducible exact ih _ _ _ _ _ _ _)
   | (with_reducible exact mgI1_mono _ _ _ _ _ _ _)
   | (with_reducible exact LeO.refl _)
   | (with_reducible exact LeO.none _)
   | (with_reducible refine LeO.ite ?_ ?_)
   | (with_reducible refine LeO.bind ?_ (fun _ => ?_))
theorem impl_MixedGroups.mono : ∀ a0 a1 k, LeO (impl_MixedGroups.f k a0 a1) (impl_MixedGroups.f (k + 1) a0 a1) := by
 intro a0 a1 k
 unfold impl_MixedGroups.f
 repeat' first
   | (with_reducible exact mgI0_mono _ _ _ _ _ _ _ _)
   | (with_reducible exact impl_AreArticles.mono _ _)
   | (with_reducible exact impl_areCounts.mono _ _ _)
   | (with_reducible exact LeO.refl _)
   | (with_reducible exact LeO.none _)
   | (with_reducible refine LeO.ite ?_ ?_)
   | (with_reducible refine LeO.bind ?_ (fun _ => ?_))
theorem ix96_0 (w : World) (a b c d : Bool) : (Instr.index 96 (.agg #[.bool a, .bool b, .bool c, .bool d]) (.int .i64 0)).run Try.prog w = .ok (.bool a) w := by
 simp [Instr.index, run_underlying Try.underlying96, asIntOf, go_sem]
theorem ix96_1 (w : World) (a b c d : Bool) : (Instr.index 96 (.agg #[.bool a, .bool b, .bool c, .bool d]) (.int .i64 1)).run Try.prog w = .ok (.bool b) w := by
 simp [Instr.index, run_underlying Try.underlying96, asIntOf, go_sem]
theorem ix96_2 (w : World) (a b c d : Bool) : (Instr.index 96 (.agg #[.bool a, .bool b, .bool c, .bool d]) (.int .i64 2)).run Try.prog w = .ok (.bool c) w := by
 simp [Instr.index, run_underlying Try.underlying96, asIntOf, go_sem]
theorem ix96_3 (w : World) (a b c d : Bool) : (Instr.index 96 (.agg #[.bool a, .bool b, .bool c, .bool d]) (.int .i64 3)).run Try.prog w = .ok (.bool d) w := by
 simp [Instr.index, run_underlying Try.underlying96, asIntOf, go_sem]
attribute [local go_sem high] ix96_0 ix96_1 ix96_2 ix96_3
theorem mx_below {w w' : World} (h : Drawn0 w w') : Below w.heap.size w w' := by
 obtain ⟨n, rfl⟩ := h
 exact pw_below_drewN (Below.refl _ _) n
set_option maxHeartbeats 40000000 in
set_option maxRecDepth 100000 in
theorem impl_MixedGroups_ok (k : Nat) (A0 : Option Addr) (c0 : Nat) (l0 : List S26) (A1 : Option Addr) (c1 : Nat) (l1 : List Int) (r : List Int) (w : World) (hr0 : Kd.C k26 w A0 l0.length l0) (hc0 : l0.length ≤ c0) (hr1 : Kd.C (Kd.int .i64) w A1 l1.length l1) (hc1 : l1.length ≤ c1) (hA : impl_AreArticles.f k l0 = some true) (hC : impl_areCounts.f k l0 l1 = some true) (H0 : mgI0 k l0 l1 false false false false 0 = some r) :
  Calls Try.prog 32 #[.slice A0 l0.length c0, .slice A1 l1.length c1] w fun e w' => ∃ v0_ : Value, e = .returned (.tuple #[v0_, .int .i64 0]) ∧ Kd.R (Kd.int .i64) 2 w' w.heap.size (fun _ => True) v0_ r ∧ Below w.heap.size w w' := by
 have hu26 := Try.underlying26
 have hu96 := Try.underlying96
 have HR0 := Aside0.mk hr0
 have HC0 := Aside0.mk hc0
 have HR1 := Aside0.mk hr1
 have HC1 := Aside0.mk hc1
 have HB := Aside0.mk (Below.refl w.heap.size w)
 clear hr0 hc0 hr1 hc1
 have H' := Aside0.mk H0
 clear H0
 go_enter Try.func32, Try.ntmps32
 go_wp2_with (first | (go_at_call 45; (with_reducible refine (impl_AreArticles.calls k _ _ l0 true _ ?side1 ?side2 hA).mono ?_); (case side1 => repeat (first | exact (Kd.C_below HR0.out HB.out) | (with_reducible first | apply cA | apply cN | apply cD))); (case side2 => exact HC0.out); rintro e w7 ⟨rfl, hb⟩; have n0_ := Aside0.mk (below_step (by repeat (first | (with_reducible first | exact HB.out | apply lA | apply lN | apply lD) | exact HB.out)) hb); clear HB; have HB := n0_; clear n0_ hb) | (go_at_call 80; (with_reducible refine (impl_areCounts.calls k _ _ l0 _ _ l1 true _ ?side1 ?side2 ?side3 ?side4 hC).mono ?_); (case side1 => repeat (first | exact (Kd.C_below HR0.out HB.out) | (with_reducible first | apply cA | apply cN | apply cD))); (case side2 => exact HC0.out); (case side3 => repeat (first | exact (Kd.C_below HR1.out HB.out) | (with_reducible first | apply cA | apply cN | apply cD))); (case side4 => exact HC1.out); rintro e w8 ⟨rfl, hd⟩; have hb := mx_below hd; clear hd; have n0_ := Aside0.mk (below_step (by repeat (first | (with_reducible first | exact HB.out | apply lA | apply lN | apply lD) | exact HB.out)) hb); clear HB; have HB := n0_; clear n0_ hb) | ((with_reducible refine gate_dst (N := 6) rfl ?_); refine box_event ?hg (N := 6) ?hd (cs := #[.bool false, .bool false, .bool false, .bool false]) (t := 96) ?hr ?_; (case hd => rfl); (case hg => rfl); (case hr => first | (go_simp; done) | (go_simp; rfl)); intro gh hg w9 hbox hb; have GEh := Aside0.mk ((by rw [hg]; exact (below_size (by repeat (first | (with_reducible first | exact HB.out | apply lA | apply lN | apply lD) | exact HB.out)))) : w.heap.size ≤ gh); have n0_ := Aside0.mk (below_step (by repeat (first | (with_reducible first | exact HB.out | apply lA | apply lN | apply lD) | exact HB.out)) hb); have BKh := Aside0.mk hbox; clear HB; have HB := n0_; clear n0_ hb hbox hg))
 go_loopg [21] k (fun kq v21 w' => ∃ (a b c d : Bool) (i : Int), v21 = .int .i64 i ∧ Aside0 (mgI0 kq l0 l1 a b c d i = some r) ∧ Aside0 (kq ≤ k) ∧ Aside0 (w'.heap[gh]? = some (.cells #[.bool a, .bool b, .bool c, .bool d] 96 (0, 0))) ∧ Aside0 (Below w.heap.size w w'))
 case atStart => exact ⟨false, false, false, false, 0, (by first | rfl | (simp; done) | (simp [*]; done)), H', ⟨Nat.le_refl _⟩, ⟨by (with_reducible repeat first | apply bN | apply bD | apply bA); exact BKh.out⟩, ⟨by repeat (first | (with_reducible first | exact HB.out | apply lA | apply lN | apply lD | refine below_set ?_ GEh.out) | exact HB.out)⟩⟩
 case round =>
  clear H' HB BKh
  obtain ⟨a, b, c, d, i, rfl, HA, HK1, BKh, HB⟩ := hrel
  cases gk with
  | zero => exact absurd HA.out (by simp [mgI0])
  | succ k1 =>
   have H := HA.out
   clear HA
   simp only [mgI0] at H
   by_cases c1_ : i < (l0.length : Int)
   ·
    rw [if_pos c1_] at H
    have c1b0 : decide (i < (l0.length : Int)) = true := decide_eq_true c1_
    by_cases c2_ : 0 ≤ i ∧ i < (l1.length : Int)
    ·
     rw [if_pos c2_] at H
     obtain ⟨adl, el, hx_0, hx_1, hx_2, hx_3, hx_4, hx_5, hx_6, hx_7, hx_8⟩ := at_T26 HR0.out i c2_.1 c1_
     cases el
     obtain ⟨adc, ec, hy⟩ := Kd.at_int HR1.out i c2_.1 c2_.2
     cases ec
     replace hx_0 := (HB.out.cell (World.block_lt_of_cell? _ _ hx_0)).trans hx_0
     replace hx_1 := (HB.out.cell (World.block_lt_of_cell? _ _ hx_1)).trans hx_1
     replace hx_2 := (HB.out.cell (World.block_lt_of_cell? _ _ hx_2)).trans hx_2
     replace hx_3 := (HB.out.cell (World.block_lt_of_cell? _ _ hx_3)).trans hx_3
     replace hx_4 := (HB.out.cell (World.block_lt_of_cell? _ _ hx_4)).trans hx_4
     replace hx_5 := (HB.out.cell (World.block_lt_of_cell? _ _ hx_5)).trans hx_5
     replace hx_6 := (HB.out.cell (World.block_lt_of_cell? _ _ hx_6)).trans hx_6
     replace hx_7 := (HB.out.cell (World.block_lt_of_cell? _ _ hx_7)).trans hx_7
     replace hx_8 := (HB.out.cell (World.block_lt_of_cell? _ _ hx_8)).trans hx_8
     have pp := eq_true c2_.1
     have qq := eq_true c1_
     have qc := eq_true c2_.2
     have HY := Aside0.mk hy
     clear hy c1_ c2_
     have Hs := Aside0.mk H
     clear H
     go_upto_region 9 with (first | ((with_reducible refine gate_dst (N := 8) rfl ?_); refine box_event ?hg (N := 8) ?hd (cs := #[.string (⟨#[]⟩ : ByteArray), .int .i64 0, .int .i64 0, .int .i64 0, .int .i64 0, .int .i64 0, .int .i64 0, .int .i64 0, .int .i64 0]) (t := 26) ?hr ?_; (case hd => rfl); (case hg => rfl); (case hr => first | (go_simp; done) | (go_simp; rfl)); intro g8 hg w12 hbox hb; have GE8 := Aside0.mk ((by rw [hg]; exact (below_size (by repeat (first | (with_reducible first | exact HB.out | apply lA | apply lN | apply lD | refine below_set ?_ GEh.out) | exact HB.out)))) : w.heap.size ≤ g8); have NBh8 := Aside0.mk ((by rw [hg]; exact Nat.ne_of_lt (blk_lt (g := gh) (o := .cells #[.bool a, .bool b, .bool c, .bool d] 96 (0, 0)) (by (with_reducible repeat first | apply bN | apply bD | apply bA); exact BKh.out))) : gh ≠ g8); have n1_ := Aside0.mk (blk_below (g := gh) (o := .cells #[.bool a, .bool b, .bool c, .bool d] 96 (0, 0)) (by (with_reducible repeat first | apply bN | apply bD | apply bA); exact BKh.out) hb); have n0_ := Aside0.mk (below_step (by repeat (first | (with_reducible first | exact HB.out | apply lA | apply lN | apply lD | refine below_set ?_ GEh.out) | exact HB.out)) hb); have BK8 := Aside0.mk hbox; clear HB BKh; have HB := n0_; have BKh := n1_; clear n0_ n1_ hb hbox hg; have hcz_0 : w12.cell? ⟨g8, 0, none⟩ = some (.string (⟨#[]⟩ : ByteArray)) := (blk_cell BK8.out 0).trans rfl; have hcz_1 : w12.cell? ⟨g8, 1, none⟩ = some (.int .i64 0) := (blk_cell BK8.out 1).trans rfl; have hcz_2 : w12.cell? ⟨g8, 2, none⟩ = some (.int .i64 0) := (blk_cell BK8.out 2).trans rfl; have hcz_3 : w12.cell? ⟨g8, 3, none⟩ = some (.int .i64 0) := (blk_cell BK8.out 3).trans rfl; have hcz_4 : w12.cell? ⟨g8, 4, none⟩ = some (.int .i64 0) := (blk_cell BK8.out 4).trans rfl; have hcz_5 : w12.cell? ⟨g8, 5, none⟩ = some (.int .i64 0) := (blk_cell BK8.out 5).trans rfl; have hcz_6 : w12.cell? ⟨g8, 6, none⟩ = some (.int .i64 0) := (blk_cell BK8.out 6).trans rfl; have hcz_7 : w12.cell? ⟨g8, 7, none⟩ = some (.int .i64 0) := (blk_cell BK8.out 7).trans rfl; have hcz_8 : w12.cell? ⟨g8, 8, none⟩ = some (.int .i64 0) := (blk_cell BK8.out 8).trans rfl; have hfz_0 := blk_frozen BK8.out 0; have hfz_1 := blk_frozen BK8.out 1; have hfz_2 := blk_frozen BK8.out 2; have hfz_3 := blk_frozen BK8.out 3; have hfz_4 := blk_frozen BK8.out 4; have hfz_5 := blk_frozen BK8.out 5; have hfz_6 := blk_frozen BK8.out 6; have hfz_7 := blk_frozen BK8.out 7; have hfz_8 := blk_frozen BK8.out 8))
     have H := Hs.out
     clear Hs
     have n0_ : Aside0 ((((((((((w12.setCell ⟨g8, 0, none⟩ (.string ((rd_T26 l0 i).f0))).setCell ⟨g8, 1, none⟩ (.int .i64 ((rd_T26 l0 i).f1))).setCell ⟨g8, 2, none⟩ (.int .i64 ((rd_T26 l0 i).f2))).setCell ⟨g8, 3, none⟩ (.int .i64 ((rd_T26 l0 i).f3))).setCell ⟨g8, 4, none⟩ (.int .i64 ((rd_T26 l0 i).f4))).setCell ⟨g8, 5, none⟩ (.int .i64 ((rd_T26 l0 i).f5))).setCell ⟨g8, 6, none⟩ (.int .i64 ((rd_T26 l0 i).f6))).setCell ⟨g8, 7, none⟩ (.int .i64 ((rd_T26 l0 i).f7))).setCell ⟨g8, 8, none⟩ (.int .i64 ((rd_T26 l0 i).f8))).heap[g8]? = some (.cells #[.string ((rd_T26 l0 i).f0), .int .i64 ((rd_T26 l0 i).f1), .int .i64 ((rd_T26 l0 i).f2), .int .i64 ((rd_T26 l0 i).f3), .int .i64 ((rd_T26 l0 i).f4), .int .i64 ((rd_T26 l0 i).f5), .int .i64 ((rd_T26 l0 i).f6), .int .i64 ((rd_T26 l0 i).f7), .int .i64 ((rd_T26 l0 i).f8)] 26 (0, 0))) := ⟨by (with_reducible repeat first | apply bN | apply bD | apply bA); refine blk_put (cs := #[.string ((rd_T26 l0 i).f0), .int .i64 ((rd_T26 l0 i).f1), .int .i64 ((rd_T26 l0 i).f2), .int .i64 ((rd_T26 l0 i).f3), .int .i64 ((rd_T26 l0 i).f4), .int .i64 ((rd_T26 l0 i).f5), .int .i64 ((rd_T26 l0 i).f6), .int .i64 ((rd_T26 l0 i).f7), .int .i64 0]) ?_ 8 _ rfl; (with_reducible repeat first | apply bN | apply bD | apply bA); refine blk_put (cs := #[.string ((rd_T26 l0 i).f0), .int .i64 ((rd_T26 l0 i).f1), .int .i64 ((rd_T26 l0 i).f2), .int .i64 ((rd_T26 l0 i).f3), .int .i64 ((rd_T26 l0 i).f4), .int .i64 ((rd_T26 l0 i).f5), .int .i64 ((rd_T26 l0 i).f6), .int .i64 0, .int .i64 0]) ?_ 7 _ rfl; (with_reducible repeat first | apply bN | apply bD | apply bA); refine blk_put (cs := #[.string ((rd_T26 l0 i).f0), .int .i64 ((rd_T26 l0 i).f1), .int .i64 ((rd_T26 l0 i).f2), .int .i64 ((rd_T26 l0 i).f3), .int .i64 ((rd_T26 l0 i).f4), .int .i64 ((rd_T26 l0 i).f5), .int .i64 0, .int .i64 0, .int .i64 0]) ?_ 6 _ rfl; (with_reducible repeat first | apply bN | apply bD | apply bA); refine blk_put (cs := #[.string ((rd_T26 l0 i).f0), .int .i64 ((rd_T26 l0 i).f1), .int .i64 ((rd_T26 l0 i).f2), .int .i64 ((rd_T26 l0 i).f3), .int .i64 ((rd_T26 l0 i).f4), .int .i64 0, .int .i64 0, .int .i64 0, .int .i64 0]) ?_ 5 _ rfl; (with_reducible repeat first | apply bN | apply bD | apply bA); refine blk_put (cs := #[.string ((rd_T26 l0 i).f0), .int .i64 ((rd_T26 l0 i).f1), .int .i64 ((rd_T26 l0 i).f2), .int .i64 ((rd_T26 l0 i).f3), .int .i64 0, .int .i64 0, .int .i64 0, .int .i64 0, .int .i64 0]) ?_ 4 _ rfl; (with_reducible repeat first | apply bN | apply bD | apply bA); refine blk_put (cs := #[.string ((rd_T26 l0 i).f0), .int .i64 ((rd_T26 l0 i).f1), .int .i64 ((rd_T26 l0 i).f2), .int .i64 0, .int .i64 0, .int .i64 0, .int .i64 0, .int .i64 0, .int .i64 0]) ?_ 3 _ rfl; (with_reducible repeat first | apply bN | apply bD | apply bA); refine blk_put (cs := #[.string ((rd_T26 l0 i).f0), .int .i64 ((rd_T26 l0 i).f1), .int .i64 0, .int .i64 0, .int .i64 0, .int .i64 0, .int .i64 0, .int .i64 0, .int .i64 0]) ?_ 2 _ rfl; (with_reducible repeat first | apply bN | apply bD | apply bA); refine blk_put (cs := #[.string ((rd_T26 l0 i).f0), .int .i64 0, .int .i64 0, .int .i64 0, .int .i64 0, .int .i64 0, .int .i64 0, .int .i64 0, .int .i64 0]) ?_ 1 _ rfl; (with_reducible repeat first | apply bN | apply bD | apply bA); refine blk_put (cs := #[.string (⟨#[]⟩ : ByteArray), .int .i64 0, .int .i64 0, .int .i64 0, .int .i64 0, .int .i64 0, .int .i64 0, .int .i64 0, .int .i64 0]) ?_ 0 _ rfl; (with_reducible repeat first | apply bN | apply bD | apply bA); exact BK8.out⟩
     have n1_ : Aside0 ((((((((((w12.setCell ⟨g8, 0, none⟩ (.string ((rd_T26 l0 i).f0))).setCell ⟨g8, 1, none⟩ (.int .i64 ((rd_T26 l0 i).f1))).setCell ⟨g8, 2, none⟩ (.int .i64 ((rd_T26 l0 i).f2))).setCell ⟨g8, 3, none⟩ (.int .i64 ((rd_T26 l0 i).f3))).setCell ⟨g8, 4, none⟩ (.int .i64 ((rd_T26 l0 i).f4))).setCell ⟨g8, 5, none⟩ (.int .i64 ((rd_T26 l0 i).f5))).setCell ⟨g8, 6, none⟩ (.int .i64 ((rd_T26 l0 i).f6))).setCell ⟨g8, 7, none⟩ (.int .i64 ((rd_T26 l0 i).f7))).setCell ⟨g8, 8, none⟩ (.int .i64 ((rd_T26 l0 i).f8))).heap[gh]? = some (.cells #[.bool a, .bool b, .bool c, .bool d] 96 (0, 0))) := ⟨by (with_reducible repeat first | apply bN | apply bD | apply bA); refine blk_far ?_ NBh8.out _; (with_reducible repeat first | apply bN | apply bD | apply bA); refine blk_far ?_ NBh8.out _; (with_reducible repeat first | apply bN | apply bD | apply bA); refine blk_far ?_ NBh8.out _; (with_reducible repeat first | apply bN | apply bD | apply bA); refine blk_far ?_ NBh8.out _; (with_reducible repeat first | apply bN | apply bD | apply bA); refine blk_far ?_ NBh8.out _; (with_reducible repeat first | apply bN | apply bD | apply bA); refine blk_far ?_ NBh8.out _; (with_reducible repeat first | apply bN | apply bD | apply bA); refine blk_far ?_ NBh8.out _; (with_reducible repeat first | apply bN | apply bD | apply bA); refine blk_far ?_ NBh8.out _; (with_reducible repeat first | apply bN | apply bD | apply bA); refine blk_far ?_ NBh8.out _; (with_reducible repeat first | apply bN | apply bD | apply bA); exact BKh.out⟩
     have n2_ : Aside0 (Below w.heap.size w (((((((((w12.setCell ⟨g8, 0, none⟩ (.string ((rd_T26 l0 i).f0))).setCell ⟨g8, 1, none⟩ (.int .i64 ((rd_T26 l0 i).f1))).setCell ⟨g8, 2, none⟩ (.int .i64 ((rd_T26 l0 i).f2))).setCell ⟨g8, 3, none⟩ (.int .i64 ((rd_T26 l0 i).f3))).setCell ⟨g8, 4, none⟩ (.int .i64 ((rd_T26 l0 i).f4))).setCell ⟨g8, 5, none⟩ (.int .i64 ((rd_T26 l0 i).f5))).setCell ⟨g8, 6, none⟩ (.int .i64 ((rd_T26 l0 i).f6))).setCell ⟨g8, 7, none⟩ (.int .i64 ((rd_T26 l0 i).f7))).setCell ⟨g8, 8, none⟩ (.int .i64 ((rd_T26 l0 i).f8)))) := ⟨by repeat (first | (with_reducible first | exact HB.out | apply lA | apply lN | apply lD | refine below_set ?_ GEh.out | refine below_set ?_ GE8.out) | exact HB.out)⟩
     clear BK8 BKh HB
     generalize (((((((((w12.setCell ⟨g8, 0, none⟩ (.string ((rd_T26 l0 i).f0))).setCell ⟨g8, 1, none⟩ (.int .i64 ((rd_T26 l0 i).f1))).setCell ⟨g8, 2, none⟩ (.int .i64 ((rd_T26 l0 i).f2))).setCell ⟨g8, 3, none⟩ (.int .i64 ((rd_T26 l0 i).f3))).setCell ⟨g8, 4, none⟩ (.int .i64 ((rd_T26 l0 i).f4))).setCell ⟨g8, 5, none⟩ (.int .i64 ((rd_T26 l0 i).f5))).setCell ⟨g8, 6, none⟩ (.int .i64 ((rd_T26 l0 i).f6))).setCell ⟨g8, 7, none⟩ (.int .i64 ((rd_T26 l0 i).f7))).setCell ⟨g8, 8, none⟩ (.int .i64 ((rd_T26 l0 i).f8))) = wq at n0_ n1_ n2_ ⊢
     have BK8 := n0_
     have BKh := n1_
     have HB := n2_
     clear n0_ n1_ n2_
     have hb8 : wq.cell? ⟨g8, 8, none⟩ = some (.int .i64 ((rd_T26 l0 i).f8)) := (blk_cell BK8.out 8).trans rfl
     have hf8 := blk_frozen BK8.out 8
     have hy := (HB.out.cell (World.block_lt_of_cell? _ _ HY.out)).trans HY.out
     clear HY
     by_cases c3 : rd l1 i > 0
     ·
      rw [if_pos c3] at H
      have c3b0 : decide (0 < rd l1 i) = true := decide_eq_true c3
      clear c3
      by_cases g0 : (rd_T26 l0 i).f8 = 0
      ·
       rw [if_pos g0] at H
       have H' := Aside0.mk H
       clear H
       rw [g0] at hb8
       have hq_0 : wq.cell? ⟨gh, 0, none⟩ = some (.bool a) := (blk_cell BKh.out 0).trans rfl
       have hq_1 : wq.cell? ⟨gh, 1, none⟩ = some (.bool b) := (blk_cell BKh.out 1).trans rfl
       have hq_2 : wq.cell? ⟨gh, 2, none⟩ = some (.bool c) := (blk_cell BKh.out 2).trans rfl
       have hq_3 : wq.cell? ⟨gh, 3, none⟩ = some (.bool d) := (blk_cell BKh.out 3).trans rfl
       have hr_0 := blk_frozen BKh.out 0
       have hr_1 := blk_frozen BKh.out 1
       have hr_2 := blk_frozen BKh.out 2
       have hr_3 := blk_frozen BKh.out 3
       go_wp2
       go_roundg k1
       case measure => have := HK1.out; omega
       case rel => exact ⟨true, b, c, d, (wrap64 (i + 1)), (by first | rfl | (simp; done) | (simp [*]; done)), H', ⟨by have := HK1.out; omega⟩, ⟨by (with_reducible repeat first | apply bN | apply bD | apply bA); refine blk_put (cs := #[.bool a, .bool b, .bool c, .bool d]) ?_ 0 _ rfl; (with_reducible repeat first | apply bN | apply bD | apply bA); exact BKh.out⟩, ⟨by repeat (first | (with_reducible first | exact HB.out | apply lA | apply lN | apply lD | refine below_set ?_ GEh.out | refine below_set ?_ GE8.out) | exact HB.out)⟩⟩
      ·
       rw [if_neg g0] at H
       by_cases g1 : (rd_T26 l0 i).f8 = 1
       ·
        rw [if_pos g1] at H
        have H' := Aside0.mk H
        clear H
        rw [g1] at hb8
        have hq_0 : wq.cell? ⟨gh, 0, none⟩ = some (.bool a) := (blk_cell BKh.out 0).trans rfl
        have hq_1 : wq.cell? ⟨gh, 1, none⟩ = some (.bool b) := (blk_cell BKh.out 1).trans rfl
        have hq_2 : wq.cell? ⟨gh, 2, none⟩ = some (.bool c) := (blk_cell BKh.out 2).trans rfl
        have hq_3 : wq.cell? ⟨gh, 3, none⟩ = some (.bool d) := (blk_cell BKh.out 3).trans rfl
        have hr_0 := blk_frozen BKh.out 0
        have hr_1 := blk_frozen BKh.out 1
        have hr_2 := blk_frozen BKh.out 2
        have hr_3 := blk_frozen BKh.out 3
        go_wp2
        go_roundg k1
        case measure => have := HK1.out; omega
        case rel => exact ⟨a, true, c, d, (wrap64 (i + 1)), (by first | rfl | (simp; done) | (simp [*]; done)), H', ⟨by have := HK1.out; omega⟩, ⟨by (with_reducible repeat first | apply bN | apply bD | apply bA); refine blk_put (cs := #[.bool a, .bool b, .bool c, .bool d]) ?_ 1 _ rfl; (with_reducible repeat first | apply bN | apply bD | apply bA); exact BKh.out⟩, ⟨by repeat (first | (with_reducible first | exact HB.out | apply lA | apply lN | apply lD | refine below_set ?_ GEh.out | refine below_set ?_ GE8.out) | exact HB.out)⟩⟩
       ·
        rw [if_neg g1] at H
        by_cases g2 : (rd_T26 l0 i).f8 = 2
        ·
         rw [if_pos g2] at H
         have H' := Aside0.mk H
         clear H
         rw [g2] at hb8
         have hq_0 : wq.cell? ⟨gh, 0, none⟩ = some (.bool a) := (blk_cell BKh.out 0).trans rfl
         have hq_1 : wq.cell? ⟨gh, 1, none⟩ = some (.bool b) := (blk_cell BKh.out 1).trans rfl
         have hq_2 : wq.cell? ⟨gh, 2, none⟩ = some (.bool c) := (blk_cell BKh.out 2).trans rfl
         have hq_3 : wq.cell? ⟨gh, 3, none⟩ = some (.bool d) := (blk_cell BKh.out 3).trans rfl
         have hr_0 := blk_frozen BKh.out 0
         have hr_1 := blk_frozen BKh.out 1
         have hr_2 := blk_frozen BKh.out 2
         have hr_3 := blk_frozen BKh.out 3
         go_wp2
         go_roundg k1
         case measure => have := HK1.out; omega
         case rel => exact ⟨a, b, true, d, (wrap64 (i + 1)), (by first | rfl | (simp; done) | (simp [*]; done)), H', ⟨by have := HK1.out; omega⟩, ⟨by (with_reducible repeat first | apply bN | apply bD | apply bA); refine blk_put (cs := #[.bool a, .bool b, .bool c, .bool d]) ?_ 2 _ rfl; (with_reducible repeat first | apply bN | apply bD | apply bA); exact BKh.out⟩, ⟨by repeat (first | (with_reducible first | exact HB.out | apply lA | apply lN | apply lD | refine below_set ?_ GEh.out | refine below_set ?_ GE8.out) | exact HB.out)⟩⟩
        ·
         rw [if_neg g2] at H
         by_cases g3 : (rd_T26 l0 i).f8 = 3
         ·
          rw [if_pos g3] at H
          have H' := Aside0.mk H
          clear H
          rw [g3] at hb8
          have hq_0 : wq.cell? ⟨gh, 0, none⟩ = some (.bool a) := (blk_cell BKh.out 0).trans rfl
          have hq_1 : wq.cell? ⟨gh, 1, none⟩ = some (.bool b) := (blk_cell BKh.out 1).trans rfl
          have hq_2 : wq.cell? ⟨gh, 2, none⟩ = some (.bool c) := (blk_cell BKh.out 2).trans rfl
          have hq_3 : wq.cell? ⟨gh, 3, none⟩ = some (.bool d) := (blk_cell BKh.out 3).trans rfl
          have hr_0 := blk_frozen BKh.out 0
          have hr_1 := blk_frozen BKh.out 1
          have hr_2 := blk_frozen BKh.out 2
          have hr_3 := blk_frozen BKh.out 3
          go_wp2
          go_roundg k1
          case measure => have := HK1.out; omega
          case rel => exact ⟨a, b, c, true, (wrap64 (i + 1)), (by first | rfl | (simp; done) | (simp [*]; done)), H', ⟨by have := HK1.out; omega⟩, ⟨by (with_reducible repeat first | apply bN | apply bD | apply bA); refine blk_put (cs := #[.bool a, .bool b, .bool c, .bool d]) ?_ 3 _ rfl; (with_reducible repeat first | apply bN | apply bD | apply bA); exact BKh.out⟩, ⟨by repeat (first | (with_reducible first | exact HB.out | apply lA | apply lN | apply lD | refine below_set ?_ GEh.out | refine below_set ?_ GE8.out) | exact HB.out)⟩⟩
         ·
          rw [if_neg g3] at H
          exact absurd H (by simp)
     ·
      rw [if_neg c3] at H
      have c3b0 : decide (0 < rd l1 i) = false := decide_eq_false c3
      clear c3
      have H' := Aside0.mk H
      clear H
      go_wp2
      go_roundg k1
      case measure => have := HK1.out; omega
      case rel => exact ⟨a, b, c, d, (wrap64 (i + 1)), (by first | rfl | (simp; done) | (simp [*]; done)), H', ⟨by have := HK1.out; omega⟩, ⟨by (with_reducible repeat first | apply bN | apply bD | apply bA); exact BKh.out⟩, ⟨by repeat (first | (with_reducible first | exact HB.out | apply lA | apply lN | apply lD | refine below_set ?_ GEh.out | refine below_set ?_ GE8.out) | exact HB.out)⟩⟩
    ·
     rw [if_neg c2_] at H
     exact absurd H (by simp)
   ·
    rw [if_neg c1_] at H
    have c1b0 : decide (i < (l0.length : Int)) = false := decide_eq_false c1_
    clear c1_
    have H' := Aside0.mk H
    clear H
    have hq_0 := (blk_cell BKh.out 0)
    have hq_1 := (blk_cell BKh.out 1)
    have hq_2 := (blk_cell BKh.out 2)
    have hq_3 := (blk_cell BKh.out 3)
    have hr_0 := blk_frozen BKh.out 0
    have hr_1 := blk_frozen BKh.out 1
    have hr_2 := blk_frozen BKh.out 2
    have hr_3 := blk_frozen BKh.out 3
    go_wp2
    go_loopg [9, 36] k1 (fun kq v9 v36 w' => ∃ (out : List Int) (x : Int), v36 = .int .i64 x ∧ Aside0 (mgI1 kq a b c d out x = some r) ∧ Aside0 (kq ≤ k1) ∧ Aside0 (Kd.R (Kd.int .i64) 2 w' w.heap.size (fun _ => True) v9 out) ∧ Aside0 (Below w.heap.size w w'))
    case atStart => exact ⟨[], 0, (by first | rfl | (simp; done) | (simp [*]; done)), H', ⟨Nat.le_refl _⟩, ⟨Kd.R_nil _ _ _ _ _⟩, ⟨by repeat (first | (with_reducible first | exact HB.out | apply lA | apply lN | apply lD | refine below_set ?_ GEh.out) | exact HB.out)⟩⟩
    case round =>
     clear H' HB
     obtain ⟨out, x, rfl, HA, HK2, HO, HB⟩ := hrel
     obtain ⟨A9, c9, e9⟩ := Kd.R_slice HO.out
     subst e9
     cases gk with
     | zero => exact absurd HA.out (by simp [mgI1])
     | succ k2 =>
      have H := HA.out
      clear HA
      simp only [mgI1] at H
      by_cases c4 : x < 4
      ·
       rw [if_pos c4] at H
       clear c4
       by_cases g0 : x = 0
       ·
        subst g0
        rw [if_pos rfl] at H
        cases ha : a with
        | true =>
         subst ha
         rw [if_pos rfl] at H
         by_cases c5 : out.length < 17592186044416
         ·
          rw [if_pos c5] at H
          have H' := Aside0.mk H
          clear H
          go_wp2_with (first | ((with_reducible refine gate_builtin (b := .append) (xs := #[.tmp 41, .tmp 43]) rfl ?_); at_builtin; refine Kd.R_append (Kd.int .i64) (w0 := w) w.heap.size rfl (.tmp 41) (.tmp 43) 40 2 (.int .i64 0) 8 rfl Try.underlying40 info2 rfl (by decide) (by omega) (.slice A9 out.length c9) out 0 [.int .i64 0] (fun _ => True) (fun _ => False) rfl rfl ?aP (fun _ hk => hk.elim) ?aF ?aO ?aB ?aS ?aL ?_; (case aP => exact rfl); (case aB => exact (by repeat (first | (with_reducible first | exact HB.out | apply lA | apply lN | apply lD) | exact HB.out))); (case aF => exact (fun _ _ => trivial)); (case aO => exact (by (with_reducible repeat (first | apply rA | apply rN | apply rD)); exact HO.out)); (case aS => exact (below_size (by repeat (first | (with_reducible first | exact HB.out | apply lA | apply lN | apply lD) | exact HB.out)))); (case aL => omega); intro v9 w13 ho hb hg hat; have n0_ := Aside0.mk hb; have n1_ := Aside0.mk ho; clear HB HO; have HB := n0_; have HO := n1_; clear n0_ n1_ ho hb hg hat))
          go_roundg k2
          case measure => have := HK2.out; omega
          case rel => exact ⟨out ++ [0], (wrap64 (0 + 1)), (by first | rfl | (rw [show wrap64 (0 + 1) = 1 from by unfold wrap64; omega]; done) | (rw [show wrap64 (0 + 1) = 1 from by unfold wrap64; omega]; rfl)), H', ⟨by have := HK2.out; omega⟩, ⟨(by (with_reducible repeat (first | apply rA | apply rN | apply rD)); exact HO.out)⟩, ⟨by repeat (first | (with_reducible first | exact HB.out | apply lA | apply lN | apply lD) | exact HB.out)⟩⟩
         ·
          rw [if_neg c5] at H
          exact absurd H (by simp)
        | false =>
         subst ha
         rw [if_neg (by decide)] at H
         have H' := Aside0.mk H
         clear H
         go_wp2
         go_roundg k2
         case measure => have := HK2.out; omega
         case rel => exact ⟨out, (wrap64 (0 + 1)), (by first | rfl | (rw [show wrap64 (0 + 1) = 1 from by unfold wrap64; omega]; done) | (rw [show wrap64 (0 + 1) = 1 from by unfold wrap64; omega]; rfl)), H', ⟨by have := HK2.out; omega⟩, ⟨(by (with_reducible repeat (first | apply rA | apply rN | apply rD)); exact HO.out)⟩, ⟨by repeat (first | (with_reducible first | exact HB.out | apply lA | apply lN | apply lD) | exact HB.out)⟩⟩
       ·
        rw [if_neg g0] at H
        by_cases g1 : x = 1
        ·
         subst g1
         rw [if_pos rfl] at H
         cases hb : b with
         | true =>
          subst hb
          rw [if_pos rfl] at H
          by_cases c5 : out.length < 17592186044416
          ·
           rw [if_pos c5] at H
           have H' := Aside0.mk H
           clear H
           go_wp2_with (first | ((with_reducible refine gate_builtin (b := .append) (xs := #[.tmp 41, .tmp 43]) rfl ?_); at_builtin; refine Kd.R_append (Kd.int .i64) (w0 := w) w.heap.size rfl (.tmp 41) (.tmp 43) 40 2 (.int .i64 0) 8 rfl Try.underlying40 info2 rfl (by decide) (by omega) (.slice A9 out.length c9) out 1 [.int .i64 1] (fun _ => True) (fun _ => False) rfl rfl ?aP (fun _ hk => hk.elim) ?aF ?aO ?aB ?aS ?aL ?_; (case aP => exact rfl); (case aB => exact (by repeat (first | (with_reducible first | exact HB.out | apply lA | apply lN | apply lD) | exact HB.out))); (case aF => exact (fun _ _ => trivial)); (case aO => exact (by (with_reducible repeat (first | apply rA | apply rN | apply rD)); exact HO.out)); (case aS => exact (below_size (by repeat (first | (with_reducible first | exact HB.out | apply lA | apply lN | apply lD) | exact HB.out)))); (case aL => omega); intro v9 w13 ho hb hg hat; have n0_ := Aside0.mk hb; have n1_ := Aside0.mk ho; clear HB HO; have HB := n0_; have HO := n1_; clear n0_ n1_ ho hb hg hat))
           go_roundg k2
           case measure => have := HK2.out; omega
           case rel => exact ⟨out ++ [1], (wrap64 (1 + 1)), (by first | rfl | (rw [show wrap64 (1 + 1) = 2 from by unfold wrap64; omega]; done) | (rw [show wrap64 (1 + 1) = 2 from by unfold wrap64; omega]; rfl)), H', ⟨by have := HK2.out; omega⟩, ⟨(by (with_reducible repeat (first | apply rA | apply rN | apply rD)); exact HO.out)⟩, ⟨by repeat (first | (with_reducible first | exact HB.out | apply lA | apply lN | apply lD) | exact HB.out)⟩⟩
          ·
           rw [if_neg c5] at H
           exact absurd H (by simp)
         | false =>
          subst hb
          rw [if_neg (by decide)] at H
          have H' := Aside0.mk H
          clear H
          go_wp2
          go_roundg k2
          case measure => have := HK2.out; omega
          case rel => exact ⟨out, (wrap64 (1 + 1)), (by first | rfl | (rw [show wrap64 (1 + 1) = 2 from by unfold wrap64; omega]; done) | (rw [show wrap64 (1 + 1) = 2 from by unfold wrap64; omega]; rfl)), H', ⟨by have := HK2.out; omega⟩, ⟨(by (with_reducible repeat (first | apply rA | apply rN | apply rD)); exact HO.out)⟩, ⟨by repeat (first | (with_reducible first | exact HB.out | apply lA | apply lN | apply lD) | exact HB.out)⟩⟩
        ·
         rw [if_neg g1] at H
         by_cases g2 : x = 2
         ·
          subst g2
          rw [if_pos rfl] at H
          cases hc : c with
          | true =>
           subst hc
           rw [if_pos rfl] at H
           by_cases c5 : out.length < 17592186044416
           ·
            rw [if_pos c5] at H
            have H' := Aside0.mk H
            clear H
            go_wp2_with (first | ((with_reducible refine gate_builtin (b := .append) (xs := #[.tmp 41, .tmp 43]) rfl ?_); at_builtin; refine Kd.R_append (Kd.int .i64) (w0 := w) w.heap.size rfl (.tmp 41) (.tmp 43) 40 2 (.int .i64 0) 8 rfl Try.underlying40 info2 rfl (by decide) (by omega) (.slice A9 out.length c9) out 2 [.int .i64 2] (fun _ => True) (fun _ => False) rfl rfl ?aP (fun _ hk => hk.elim) ?aF ?aO ?aB ?aS ?aL ?_; (case aP => exact rfl); (case aB => exact (by repeat (first | (with_reducible first | exact HB.out | apply lA | apply lN | apply lD) | exact HB.out))); (case aF => exact (fun _ _ => trivial)); (case aO => exact (by (with_reducible repeat (first | apply rA | apply rN | apply rD)); exact HO.out)); (case aS => exact (below_size (by repeat (first | (with_reducible first | exact HB.out | apply lA | apply lN | apply lD) | exact HB.out)))); (case aL => omega); intro v9 w13 ho hb hg hat; have n0_ := Aside0.mk hb; have n1_ := Aside0.mk ho; clear HB HO; have HB := n0_; have HO := n1_; clear n0_ n1_ ho hb hg hat))
            go_roundg k2
            case measure => have := HK2.out; omega
            case rel => exact ⟨out ++ [2], (wrap64 (2 + 1)), (by first | rfl | (rw [show wrap64 (2 + 1) = 3 from by unfold wrap64; omega]; done) | (rw [show wrap64 (2 + 1) = 3 from by unfold wrap64; omega]; rfl)), H', ⟨by have := HK2.out; omega⟩, ⟨(by (with_reducible repeat (first | apply rA | apply rN | apply rD)); exact HO.out)⟩, ⟨by repeat (first | (with_reducible first | exact HB.out | apply lA | apply lN | apply lD) | exact HB.out)⟩⟩
           ·
            rw [if_neg c5] at H
            exact absurd H (by simp)
          | false =>
           subst hc
           rw [if_neg (by decide)] at H
           have H' := Aside0.mk H
           clear H
           go_wp2
           go_roundg k2
           case measure => have := HK2.out; omega
           case rel => exact ⟨out, (wrap64 (2 + 1)), (by first | rfl | (rw [show wrap64 (2 + 1) = 3 from by unfold wrap64; omega]; done) | (rw [show wrap64 (2 + 1) = 3 from by unfold wrap64; omega]; rfl)), H', ⟨by have := HK2.out; omega⟩, ⟨(by (with_reducible repeat (first | apply rA | apply rN | apply rD)); exact HO.out)⟩, ⟨by repeat (first | (with_reducible first | exact HB.out | apply lA | apply lN | apply lD) | exact HB.out)⟩⟩
         ·
          rw [if_neg g2] at H
          by_cases g3 : x = 3
          ·
           subst g3
           rw [if_pos rfl] at H
           cases hd : d with
           | true =>
            subst hd
            rw [if_pos rfl] at H
            by_cases c5 : out.length < 17592186044416
            ·
             rw [if_pos c5] at H
             have H' := Aside0.mk H
             clear H
             go_wp2_with (first | ((with_reducible refine gate_builtin (b := .append) (xs := #[.tmp 41, .tmp 43]) rfl ?_); at_builtin; refine Kd.R_append (Kd.int .i64) (w0 := w) w.heap.size rfl (.tmp 41) (.tmp 43) 40 2 (.int .i64 0) 8 rfl Try.underlying40 info2 rfl (by decide) (by omega) (.slice A9 out.length c9) out 3 [.int .i64 3] (fun _ => True) (fun _ => False) rfl rfl ?aP (fun _ hk => hk.elim) ?aF ?aO ?aB ?aS ?aL ?_; (case aP => exact rfl); (case aB => exact (by repeat (first | (with_reducible first | exact HB.out | apply lA | apply lN | apply lD) | exact HB.out))); (case aF => exact (fun _ _ => trivial)); (case aO => exact (by (with_reducible repeat (first | apply rA | apply rN | apply rD)); exact HO.out)); (case aS => exact (below_size (by repeat (first | (with_reducible first | exact HB.out | apply lA | apply lN | apply lD) | exact HB.out)))); (case aL => omega); intro v9 w13 ho hb hg hat; have n0_ := Aside0.mk hb; have n1_ := Aside0.mk ho; clear HB HO; have HB := n0_; have HO := n1_; clear n0_ n1_ ho hb hg hat))
             go_roundg k2
             case measure => have := HK2.out; omega
             case rel => exact ⟨out ++ [3], (wrap64 (3 + 1)), (by first | rfl | (rw [show wrap64 (3 + 1) = 4 from by unfold wrap64; omega]; done) | (rw [show wrap64 (3 + 1) = 4 from by unfold wrap64; omega]; rfl)), H', ⟨by have := HK2.out; omega⟩, ⟨(by (with_reducible repeat (first | apply rA | apply rN | apply rD)); exact HO.out)⟩, ⟨by repeat (first | (with_reducible first | exact HB.out | apply lA | apply lN | apply lD) | exact HB.out)⟩⟩
            ·
             rw [if_neg c5] at H
             exact absurd H (by simp)
           | false =>
            subst hd
            rw [if_neg (by decide)] at H
            have H' := Aside0.mk H
            clear H
            go_wp2
            go_roundg k2
            case measure => have := HK2.out; omega
            case rel => exact ⟨out, (wrap64 (3 + 1)), (by first | rfl | (rw [show wrap64 (3 + 1) = 4 from by unfold wrap64; omega]; done) | (rw [show wrap64 (3 + 1) = 4 from by unfold wrap64; omega]; rfl)), H', ⟨by have := HK2.out; omega⟩, ⟨(by (with_reducible repeat (first | apply rA | apply rN | apply rD)); exact HO.out)⟩, ⟨by repeat (first | (with_reducible first | exact HB.out | apply lA | apply lN | apply lD) | exact HB.out)⟩⟩
          ·
           rw [if_neg g3] at H
           exact absurd H (by simp)
      ·
       rw [if_neg c4] at H
       have c4b0 : decide (x < 4) = false := decide_eq_false c4
       clear c4
       obtain rfl := Option.some.inj H
       go_wp2
       go_ret2
       exact ⟨_, by first | rfl | (simp; done) | (simp [*]; done), (by (with_reducible repeat (first | apply rA | apply rN | apply rD)); exact HO.out), by repeat (first | (with_reducible first | exact HB.out | apply lA | apply lN | apply lD) | exact HB.out)⟩
set_option maxHeartbeats 40000000 in
set_option maxRecDepth 100000 in
theorem impl_MixedGroups_no1 (k : Nat) (A0 : Option Addr) (c0 : Nat) (l0 : List S26) (A1 : Option Addr) (c1 : Nat) (l1 : List Int) (w : World) (hr0 : Kd.C k26 w A0 l0.length l0) (hc0 : l0.length ≤ c0) (hr1 : Kd.C (Kd.int .i64) w A1 l1.length l1) (hc1 : l1.length ≤ c1) (hA : impl_AreArticles.f k l0 = some false) :
  Calls Try.prog 32 #[.slice A0 l0.length c0, .slice A1 l1.length c1] w fun e w' => ∃ v0_ : Value, e = .returned (.tuple #[v0_, .int .i64 1]) ∧ Kd.R (Kd.int .i64) 2 w' w.heap.size (fun _ => True) v0_ ([] : List Int) ∧ Below w.heap.size w w' := by
 have hu26 := Try.underlying26
 have hu96 := Try.underlying96
 have HR0 := Aside0.mk hr0
 have HC0 := Aside0.mk hc0
 have HR1 := Aside0.mk hr1
 have HC1 := Aside0.mk hc1
 have HB := Aside0.mk (Below.refl w.heap.size w)
 clear hr0 hc0 hr1 hc1
 go_enter Try.func32, Try.ntmps32
 go_wp2_with (first | (go_at_call 45; (with_reducible refine (impl_AreArticles.calls k _ _ l0 false _ ?side1 ?side2 hA).mono ?_); (case side1 => repeat (first | exact (Kd.C_below HR0.out HB.out) | (with_reducible first | apply cA | apply cN | apply cD))); (case side2 => exact HC0.out); rintro e w7 ⟨rfl, hb⟩; have n0_ := Aside0.mk (below_step (by repeat (first | (with_reducible first | exact HB.out | apply lA | apply lN | apply lD) | exact HB.out)) hb); clear HB; have HB := n0_; clear n0_ hb))
 go_ret2
 exact ⟨_, by first | rfl | (simp; done) | (simp [*]; done), Kd.R_nil _ _ _ _ _, by repeat (first | (with_reducible first | exact HB.out | apply lA | apply lN | apply lD) | exact HB.out)⟩
set_option maxHeartbeats 40000000 in
set_option maxRecDepth 100000 in
theorem impl_MixedGroups_no2 (k : Nat) (A0 : Option Addr) (c0 : Nat) (l0 : List S26) (A1 : Option Addr) (c1 : Nat) (l1 : List Int) (w : World) (hr0 : Kd.C k26 w A0 l0.length l0) (hc0 : l0.length ≤ c0) (hr1 : Kd.C (Kd.int .i64) w A1 l1.length l1) (hc1 : l1.length ≤ c1) (hA : impl_AreArticles.f k l0 = some true) (hC : impl_areCounts.f k l0 l1 = some false) :
  Calls Try.prog 32 #[.slice A0 l0.length c0, .slice A1 l1.length c1] w fun e w' => ∃ v0_ : Value, e = .returned (.tuple #[v0_, .int .i64 2]) ∧ Kd.R (Kd.int .i64) 2 w' w.heap.size (fun _ => True) v0_ ([] : List Int) ∧ Below w.heap.size w w' := by
 have hu26 := Try.underlying26
 have hu96 := Try.underlying96
 have HR0 := Aside0.mk hr0
 have HC0 := Aside0.mk hc0
 have HR1 := Aside0.mk hr1
 have HC1 := Aside0.mk hc1
 have HB := Aside0.mk (Below.refl w.heap.size w)
 clear hr0 hc0 hr1 hc1
 go_enter Try.func32, Try.ntmps32
 go_wp2_with (first | (go_at_call 45; (with_reducible refine (impl_AreArticles.calls k _ _ l0 true _ ?side1 ?side2 hA).mono ?_); (case side1 => repeat (first | exact (Kd.C_below HR0.out HB.out) | (with_reducible first | apply cA | apply cN | apply cD))); (case side2 => exact HC0.out); rintro e w7 ⟨rfl, hb⟩; have n0_ := Aside0.mk (below_step (by repeat (first | (with_reducible first | exact HB.out | apply lA | apply lN | apply lD) | exact HB.out)) hb); clear HB; have HB := n0_; clear n0_ hb) | (go_at_call 80; (with_reducible refine (impl_areCounts.calls k _ _ l0 _ _ l1 false _ ?side1 ?side2 ?side3 ?side4 hC).mono ?_); (case side1 => repeat (first | exact (Kd.C_below HR0.out HB.out) | (with_reducible first | apply cA | apply cN | apply cD))); (case side2 => exact HC0.out); (case side3 => repeat (first | exact (Kd.C_below HR1.out HB.out) | (with_reducible first | apply cA | apply cN | apply cD))); (case side4 => exact HC1.out); rintro e w8 ⟨rfl, hd⟩; have hb := mx_below hd; clear hd; have n0_ := Aside0.mk (below_step (by repeat (first | (with_reducible first | exact HB.out | apply lA | apply lN | apply lD) | exact HB.out)) hb); clear HB; have HB := n0_; clear n0_ hb))
 go_ret2
 exact ⟨_, by first | rfl | (simp; done) | (simp [*]; done), Kd.R_nil _ _ _ _ _, by repeat (first | (with_reducible first | exact HB.out | apply lA | apply lN | apply lD) | exact HB.out)⟩
theorem impl_MixedGroups.calls (k : Nat) (A0 : Option Addr) (c0 : Nat) (l0 : List S26) (A1 : Option Addr) (c1 : Nat) (l1 : List Int) (r1 : List Int) (r2 : Int) (w : World) (hr0 : Kd.C k26 w A0 l0.length l0) (hc0 : l0.length ≤ c0) (hr1 : Kd.C (Kd.int .i64) w A1 l1.length l1) (hc1 : l1.length ≤ c1) (h : impl_MixedGroups.f k l0 l1 = some (r1, r2)) :
  Calls Try.prog 32 #[.slice A0 l0.length c0, .slice A1 l1.length c1] w fun e w' => ∃ v0_ : Value, e = .returned (.tuple #[v0_, .int .i64 r2]) ∧ Kd.R (Kd.int .i64) 2 w' w.heap.size (fun _ => True) v0_ r1 ∧ Below w.heap.size w w' := by
 obtain ⟨t, ht, h⟩ := Option.bind_eq_some_iff.mp h
 cases t with
 | false =>
  simp only [Bool.false_eq_true, if_false, Option.some.injEq, Prod.mk.injEq] at h
  obtain ⟨rfl, rfl⟩ := h
  exact impl_MixedGroups_no1 k A0 c0 l0 A1 c1 l1 w hr0 hc0 hr1 hc1 ht
 | true =>
  rw [if_pos rfl] at h
  obtain ⟨u, hu, h⟩ := Option.bind_eq_some_iff.mp h
  cases u with
  | false =>
   simp only [Bool.false_eq_true, if_false, Option.some.injEq, Prod.mk.injEq] at h
   obtain ⟨rfl, rfl⟩ := h
   exact impl_MixedGroups_no2 k A0 c0 l0 A1 c1 l1 w hr0 hc0 hr1 hc1 ht hu
  | true =>
   rw [if_pos rfl] at h
   obtain ⟨y, hy, h⟩ := Option.bind_eq_some_iff.mp h
   simp only [Option.some.injEq, Prod.mk.injEq] at h
   obtain ⟨rfl, rfl⟩ := h
   exact impl_MixedGroups_ok k A0 c0 l0 A1 c1 l1 y w hr0 hc0 hr1 hc1 ht hu hy

/-! ### spec_NetOfOrder: function 49 -/
def spec_NetOfOrder.l0 : Nat → List (S26) → List Int → Int → Int → Option (Int × Int)
 | 0, _, _, _, _ => none
 | k + 1, x0, x1, x7, x8 => if x8 < (x0.length : Int) then (if 0 ≤ x8 then (if x8 < (x1.length : Int) then (spec_NetOfOrder.l0 k x0 x1 (wrap64 (x7 + (wrap64 (((rd_T26 x0 x8).f7) * (rd x1 x8))))) (wrap64 (x8 + 1))) else (none)) else (none)) else (some (x7, 0))
def spec_NetOfOrder.f (k : Nat) (l0 : List (S26)) (l1 : List Int) : Option (Int × Int) := (spec_l03Code.f k l0 l1).bind fun t158 => (if t158 = 0 then (spec_NetOfOrder.l0 k l0 l1 0 0) else (some (0, t158)))
theorem spec_NetOfOrder.mono_l : ∀ k, (∀ y0 y1 y2 y3, LeO (spec_NetOfOrder.l0 k y0 y1 y2 y3) (spec_NetOfOrder.l0 (k + 1) y0 y1 y2 y3))
 | 0 => fun _ _ _ _ r h => by simp [spec_NetOfOrder.l0] at h
 | k + 1 => by
  have ih0 := spec_NetOfOrder.mono_l k
  ·
   intro y0 y1 y2 y3
   unfold spec_NetOfOrder.l0
   repeat' first
   | (with_reducible exact ih0 _ _ _ _)
   | (with_reducible exact spec_l03Code.mono _ _ _)
   | (with_reducible exact LeO.refl _)
   | (with_reducible exact LeO.none _)
   | (with_reducible refine LeO.ite ?_ ?_)
   | (with_reducible refine LeO.bind ?_ (fun _ => ?_))
   | exact ih0 _ _ _ _
   | exact spec_l03Code.mono _ _ _
   | exact LeO.none _
   | refine LeO.ite ?_ ?_
   | refine LeO.bind ?_ (fun _ => ?_)
theorem spec_NetOfOrder.mono : ∀ a0 a1 k, LeO (spec_NetOfOrder.f k a0 a1) (spec_NetOfOrder.f (k + 1) a0 a1) := by
 intro a0 a1 k
 have ih0 := spec_NetOfOrder.mono_l k
 unfold spec_NetOfOrder.f
 repeat' first
   | (with_reducible exact ih0 _ _ _ _)
   | (with_reducible exact spec_l03Code.mono _ _ _)
   | (with_reducible exact LeO.refl _)
   | (with_reducible exact LeO.none _)
   | (with_reducible refine LeO.ite ?_ ?_)
   | (with_reducible refine LeO.bind ?_ (fun _ => ?_))
   | exact ih0 _ _ _ _
   | exact spec_l03Code.mono _ _ _
   | exact LeO.none _
   | refine LeO.ite ?_ ?_
   | refine LeO.bind ?_ (fun _ => ?_)
set_option maxHeartbeats 40000000 in
set_option maxRecDepth 100000 in
theorem spec_NetOfOrder.calls (k : Nat) (A0 : Option Addr) (c0 : Nat) (l0 : List (S26)) (A1 : Option Addr) (c1 : Nat) (l1 : List Int) (r1 : Int) (r2 : Int) (w : World) (hr0 : Kd.C k26 w A0 l0.length l0) (hc0 : l0.length ≤ c0) (hr1 : Kd.C (Kd.int .i64) w A1 l1.length l1) (hc1 : l1.length ≤ c1) (h : spec_NetOfOrder.f k l0 l1 = some (r1, r2)) :
  Calls Try.prog 49 #[.slice A0 l0.length c0, .slice A1 l1.length c1] w fun e w' => e = .returned (.tuple #[.int .i64 r1, .int .i64 r2]) ∧ Below w.heap.size w w' := by
 have HR0 := Aside0.mk hr0
 have HC0 := Aside0.mk hc0
 clear hr0 hc0
 have HR1 := Aside0.mk hr1
 have HC1 := Aside0.mk hc1
 clear hr1 hc1
 have HB := Aside0.mk (Below.refl w.heap.size w)
 have H : ((spec_l03Code.f k l0 l1).bind fun t158 => (if t158 = 0 then (spec_NetOfOrder.l0 k l0 l1 0 0) else (some (0, t158)))) = some (r1, r2) := h
 clear h
 replace H := Option.bind_eq_some_iff.mp H
 obtain ⟨t158, A30, H⟩ := H
 replace H : (if t158 = 0 then (spec_NetOfOrder.l0 k l0 l1 0 0) else (some (0, t158))) = some (r1, r2) := H
 have A3 := Aside0.mk A30
 clear A30
 by_cases c4 : t158 = 0
 ·
  rw [if_pos c4] at H
  have c4b0 : (t158 == 0) = true := beq_iff_eq.mpr c4
  have c4b1 : (t158 != 0) = false := bne_eq_false_iff_eq.mpr c4
  clear c4
  have H' := Aside0.mk H
  clear H
  go_enter Try.func49, Try.ntmps49
  go_wp2_with (first | (go_at_call 76; (with_reducible refine (spec_l03Code.calls k _ _ l0 _ _ l1 t158 _ ?side1 ?side2 ?side3 ?side4 A3.out).mono ?_); (case side1 => repeat (first | exact HR0.out | (with_reducible first | apply cA | apply cN | apply cD))); (case side2 => exact HC0.out); (case side3 => repeat (first | exact HR1.out | (with_reducible first | apply cA | apply cN | apply cD))); (case side4 => exact HC1.out); rintro e w5 ⟨rfl, hb⟩; have n0_ := Aside0.mk (below_step (by repeat (first | (with_reducible first | exact HB.out | apply lA | apply lN | apply lD) | exact HB.out)) hb); clear HB; have HB := n0_; clear n0_; (try clear hb); (try clear hb2); (try clear hk); (try clear hi)))
  repeat (go_quiet (first | (go_at_call 76; (with_reducible refine (spec_l03Code.calls k _ _ l0 _ _ l1 t158 _ ?side1 ?side2 ?side3 ?side4 A3.out).mono ?_); (case side1 => repeat (first | exact HR0.out | (with_reducible first | apply cA | apply cN | apply cD))); (case side2 => exact HC0.out); (case side3 => repeat (first | exact HR1.out | (with_reducible first | apply cA | apply cN | apply cD))); (case side4 => exact HC1.out); rintro e w5 ⟨rfl, hb⟩; have n0_ := Aside0.mk (below_step (by repeat (first | (with_reducible first | exact HB.out | apply lA | apply lN | apply lD) | exact HB.out)) hb); clear HB; have HB := n0_; clear n0_; (try clear hb); (try clear hb2); (try clear hk); (try clear hi))); try go_wp2_with (first | (go_at_call 76; (with_reducible refine (spec_l03Code.calls k _ _ l0 _ _ l1 t158 _ ?side1 ?side2 ?side3 ?side4 A3.out).mono ?_); (case side1 => repeat (first | exact HR0.out | (with_reducible first | apply cA | apply cN | apply cD))); (case side2 => exact HC0.out); (case side3 => repeat (first | exact HR1.out | (with_reducible first | apply cA | apply cN | apply cD))); (case side4 => exact HC1.out); rintro e w5 ⟨rfl, hb⟩; have n0_ := Aside0.mk (below_step (by repeat (first | (with_reducible first | exact HB.out | apply lA | apply lN | apply lD) | exact HB.out)) hb); clear HB; have HB := n0_; clear n0_; (try clear hb); (try clear hb2); (try clear hk); (try clear hi))))
  go_loopg [7, 8] k (fun kq v7 v8 w' => ∃ (x7_1 : Int) (x8_1 : Int), v7 = .int .i64 x7_1 ∧ v8 = .int .i64 x8_1 ∧ Aside0 (spec_NetOfOrder.l0 kq l0 l1 x7_1 x8_1 = some (r1, r2)) ∧ Aside0 (kq ≤ k) ∧ Aside0 (Below w.heap.size w w'))
  case atStart => exact ⟨(0), (0), (by first | rfl | (simp; done) | (simp [*]; done)), (by first | rfl | (simp; done) | (simp [*]; done)), H', ⟨Nat.le_refl _⟩, ⟨by repeat (first | (with_reducible first | exact HB.out | apply lA | apply lN | apply lD) | exact HB.out)⟩⟩
  case round =>
   clear H'
   try clear c1
   try clear p2
   try clear c4
   try clear c4b0
   try clear c4b1
   obtain ⟨x7_1, x8_1, rfl, rfl, HA, HK1, HB⟩ := hrel
   cases gk with
   | zero => exact absurd HA.out (by simp [spec_NetOfOrder.l0])
   | succ k1 =>
    have H := HA.out
    clear HA
    simp only [spec_NetOfOrder.l0] at H
    by_cases c6 : x8_1 < (l0.length : Int)
    ·
     rw [if_pos c6] at H
     have c6b0 : decide (x8_1 < (l0.length : Int)) = true := decide_eq_true c6
     clear c6
     by_cases c7 : 0 ≤ x8_1
     ·
      rw [if_pos c7] at H
      have c7b0 : decide (0 ≤ x8_1) = true := decide_eq_true c7
      clear c7
      by_cases c8 : x8_1 < (l1.length : Int)
      ·
       rw [if_pos c8] at H
       have c8b0 : decide (x8_1 < (l1.length : Int)) = true := decide_eq_true c8
       clear c8
       have H' := Aside0.mk H
       clear H
       have p159 : 0 ≤ (x8_1 : Int) := of_decide_eq_true (by with_reducible assumption)
       have q159 : x8_1 < (l0.length : Int) := of_decide_eq_true (by with_reducible assumption)
       obtain ⟨ad159, e159, hx159_0, hx159_1, hx159_2, hx159_3, hx159_4, hx159_5, hx159_6, hx159_7, hx159_8⟩ := at_T26 HR0.out x8_1 p159 q159
       cases e159
       replace hx159_0 := cB HB.out hx159_0
       replace hx159_1 := cB HB.out hx159_1
       replace hx159_2 := cB HB.out hx159_2
       replace hx159_3 := cB HB.out hx159_3
       replace hx159_4 := cB HB.out hx159_4
       replace hx159_5 := cB HB.out hx159_5
       replace hx159_6 := cB HB.out hx159_6
       replace hx159_7 := cB HB.out hx159_7
       replace hx159_8 := cB HB.out hx159_8
       replace p159 := eq_true p159
       replace q159 := eq_true q159
       have p160 : 0 ≤ (x8_1 : Int) := of_decide_eq_true (by with_reducible assumption)
       have q160 : x8_1 < (l1.length : Int) := of_decide_eq_true (by with_reducible assumption)
       obtain ⟨ad160, e160, hx160_0⟩ := Kd.at_int HR1.out x8_1 p160 q160
       cases e160
       replace hx160_0 := cB HB.out hx160_0
       replace p160 := eq_true p160
       replace q160 := eq_true q160
       go_wp2
       repeat (go_quiet (fail); try go_wp2)
       go_roundg k1
       case measure => have := HK1.out; omega
       case rel => exact ⟨(wrap64 (x7_1 + (wrap64 (((rd_T26 l0 x8_1).f7) * (rd l1 x8_1))))), (wrap64 (x8_1 + 1)), (by first | rfl | (simp; done) | (simp [*]; done)), (by first | rfl | (simp; done) | (simp [*]; done)), H', ⟨by have := HK1.out; omega⟩, ⟨by repeat (first | (with_reducible first | exact HB.out | apply lA | apply lN | apply lD) | exact HB.out)⟩⟩
      ·
       rw [if_neg c8] at H
       exact absurd H (by simp)
     ·
      rw [if_neg c7] at H
      exact absurd H (by simp)
    ·
     rw [if_neg c6] at H
     have c6b0 : decide (x8_1 < (l0.length : Int)) = false := decide_eq_false c6
     clear c6
     simp only [Option.some.injEq, Prod.mk.injEq] at H
     obtain ⟨rfl, rfl⟩ := H
     go_wp2
     repeat (go_quiet (fail); try go_wp2)
     go_ret2
     exact ⟨by first | rfl | (simp [errW_none, errW_some] <;> rfl) | (simp [*, errW_none, errW_some] <;> rfl), by repeat (first | (with_reducible first | exact HB.out | apply lA | apply lN | apply lD) | exact HB.out)⟩
 ·
  rw [if_neg c4] at H
  have c4b0 : (t158 == 0) = false := beq_eq_false_iff_ne.mpr c4
  have c4b1 : (t158 != 0) = true := bne_iff_ne.mpr c4
  simp only [Option.some.injEq, Prod.mk.injEq] at H
  obtain ⟨rfl, rfl⟩ := H
  go_enter Try.func49, Try.ntmps49
  go_wp2_with (first | (go_at_call 76; (with_reducible refine (spec_l03Code.calls k _ _ l0 _ _ l1 t158 _ ?side1 ?side2 ?side3 ?side4 A3.out).mono ?_); (case side1 => repeat (first | exact HR0.out | (with_reducible first | apply cA | apply cN | apply cD))); (case side2 => exact HC0.out); (case side3 => repeat (first | exact HR1.out | (with_reducible first | apply cA | apply cN | apply cD))); (case side4 => exact HC1.out); rintro e w9 ⟨rfl, hb⟩; have n0_ := Aside0.mk (below_step (by repeat (first | (with_reducible first | exact HB.out | apply lA | apply lN | apply lD) | exact HB.out)) hb); clear HB; have HB := n0_; clear n0_; (try clear hb); (try clear hb2); (try clear hk); (try clear hi)))
  repeat (go_quiet (first | (go_at_call 76; (with_reducible refine (spec_l03Code.calls k _ _ l0 _ _ l1 t158 _ ?side1 ?side2 ?side3 ?side4 A3.out).mono ?_); (case side1 => repeat (first | exact HR0.out | (with_reducible first | apply cA | apply cN | apply cD))); (case side2 => exact HC0.out); (case side3 => repeat (first | exact HR1.out | (with_reducible first | apply cA | apply cN | apply cD))); (case side4 => exact HC1.out); rintro e w9 ⟨rfl, hb⟩; have n0_ := Aside0.mk (below_step (by repeat (first | (with_reducible first | exact HB.out | apply lA | apply lN | apply lD) | exact HB.out)) hb); clear HB; have HB := n0_; clear n0_; (try clear hb); (try clear hb2); (try clear hk); (try clear hi))); try go_wp2_with (first | (go_at_call 76; (with_reducible refine (spec_l03Code.calls k _ _ l0 _ _ l1 t158 _ ?side1 ?side2 ?side3 ?side4 A3.out).mono ?_); (case side1 => repeat (first | exact HR0.out | (with_reducible first | apply cA | apply cN | apply cD))); (case side2 => exact HC0.out); (case side3 => repeat (first | exact HR1.out | (with_reducible first | apply cA | apply cN | apply cD))); (case side4 => exact HC1.out); rintro e w9 ⟨rfl, hb⟩; have n0_ := Aside0.mk (below_step (by repeat (first | (with_reducible first | exact HB.out | apply lA | apply lN | apply lD) | exact HB.out)) hb); clear HB; have HB := n0_; clear n0_; (try clear hb); (try clear hb2); (try clear hk); (try clear hi))))
  go_ret2
  exact ⟨by first | rfl | (simp [errW_none, errW_some] <;> rfl) | (simp [*, errW_none, errW_some] <;> rfl), by repeat (first | (with_reducible first | exact HB.out | apply lA | apply lN | apply lD) | exact HB.out)⟩

/-! ### impl_NetOfOrder: function 50 -/
def impl_NetOfOrder.l0 : Nat → List Int → Int → List (S26) → Int → Int → Option (Int × Int)
 | 0, _, _, _, _, _ => none
 | k + 1, x1, x6, x16, x17, x18 => if x18 < x17 then (if 0 ≤ x18 then (if x18 < (x16.length : Int) then (if x18 < (x1.length : Int) then (impl_NetOfOrder.l0 k x1 (wrap64 (x6 + (wrap64 (((rd_T26 x16 x18).f7) * (rd x1 x18))))) x16 x17 (wrap64 (x18 + 1))) else (none)) else (none)) else (none)) else (some (x6, 0))
def impl_NetOfOrder.f (k : Nat) (l0 : List (S26)) (l1 : List Int) : Option (Int × Int) := (impl_AreArticles.f k l0).bind fun t161 => (if t161 = true then ((impl_areCounts.f k l0 l1).bind fun t162 => (if t162 = true then (impl_NetOfOrder.l0 k l1 0 l0 (l0.length : Int) 0) else (some (0, 2)))) else (some (0, 1)))
theorem impl_NetOfOrder.mono_l : ∀ k, (∀ y0 y1 y2 y3 y4, LeO (impl_NetOfOrder.l0 k y0 y1 y2 y3 y4) (impl_NetOfOrder.l0 (k + 1) y0 y1 y2 y3 y4))
 | 0 => fun _ _ _ _ _ r h => by simp [impl_NetOfOrder.l0] at h
 | k + 1 => by
  have ih0 := impl_NetOfOrder.mono_l k
  ·
   intro y0 y1 y2 y3 y4
   unfold impl_NetOfOrder.l0
   repeat' first
   | (with_reducible exact ih0 _ _ _ _ _)
   | (with_reducible exact impl_AreArticles.mono _ _)
   | (with_reducible exact impl_areCounts.mono _ _ _)
   | (with_reducible exact LeO.refl _)
   | (with_reducible exact LeO.none _)
   | (with_reducible refine LeO.ite ?_ ?_)
   | (with_reducible refine LeO.bind ?_ (fun _ => ?_))
   | exact ih0 _ _ _ _ _
   | exact impl_AreArticles.mono _ _
   | exact impl_areCounts.mono _ _ _
   | exact LeO.none _
   | refine LeO.ite ?_ ?_
   | refine LeO.bind ?_ (fun _ => ?_)
theorem impl_NetOfOrder.mono : ∀ a0 a1 k, LeO (impl_NetOfOrder.f k a0 a1) (impl_NetOfOrder.f (k + 1) a0 a1) := by
 intro a0 a1 k
 have ih0 := impl_NetOfOrder.mono_l k
 unfold impl_NetOfOrder.f
 repeat' first
   | (with_reducible exact ih0 _ _ _ _ _)
   | (with_reducible exact impl_AreArticles.mono _ _)
   | (with_reducible exact impl_areCounts.mono _ _ _)
   | (with_reducible exact LeO.refl _)
   | (with_reducible exact LeO.none _)
   | (with_reducible refine LeO.ite ?_ ?_)
   | (with_reducible refine LeO.bind ?_ (fun _ => ?_))
   | exact ih0 _ _ _ _ _
   | exact impl_AreArticles.mono _ _
   | exact impl_areCounts.mono _ _ _
   | exact LeO.none _
   | refine LeO.ite ?_ ?_
   | refine LeO.bind ?_ (fun _ => ?_)
set_option maxHeartbeats 40000000 in
set_option maxRecDepth 100000 in
theorem impl_NetOfOrder.calls (k : Nat) (A0 : Option Addr) (c0 : Nat) (l0 : List (S26)) (A1 : Option Addr) (c1 : Nat) (l1 : List Int) (r1 : Int) (r2 : Int) (w : World) (hr0 : Kd.C k26 w A0 l0.length l0) (hc0 : l0.length ≤ c0) (hr1 : Kd.C (Kd.int .i64) w A1 l1.length l1) (hc1 : l1.length ≤ c1) (h : impl_NetOfOrder.f k l0 l1 = some (r1, r2)) :
  Calls Try.prog 50 #[.slice A0 l0.length c0, .slice A1 l1.length c1] w fun e w' => e = .returned (.tuple #[.int .i64 r1, .int .i64 r2]) ∧ Below w.heap.size w w' := by
 have hu26 := Try.underlying26
 have HR0 := Aside0.mk hr0
 have HC0 := Aside0.mk hc0
 clear hr0 hc0
 have HR1 := Aside0.mk hr1
 have HC1 := Aside0.mk hc1
 clear hr1 hc1
 have HB := Aside0.mk (Below.refl w.heap.size w)
 have H : ((impl_AreArticles.f k l0).bind fun t161 => (if t161 = true then ((impl_areCounts.f k l0 l1).bind fun t162 => (if t162 = true then (impl_NetOfOrder.l0 k l1 0 l0 (l0.length : Int) 0) else (some (0, 2)))) else (some (0, 1)))) = some (r1, r2) := h
 clear h
 replace H := Option.bind_eq_some_iff.mp H
 obtain ⟨t161, A30, H⟩ := H
 replace H : (if t161 = true then ((impl_areCounts.f k l0 l1).bind fun t162 => (if t162 = true then (impl_NetOfOrder.l0 k l1 0 l0 (l0.length : Int) 0) else (some (0, 2)))) else (some (0, 1))) = some (r1, r2) := H
 have A3 := Aside0.mk A30
 clear A30
 by_cases c4 : t161 = true
 ·
  subst c4
  have H1 : ((impl_areCounts.f k l0 l1).bind fun t162 => (if t162 = true then (impl_NetOfOrder.l0 k l1 0 l0 (l0.length : Int) 0) else (some (0, 2)))) = some (r1, r2) := by rw [if_pos rfl] at H; exact H
  clear H
  have H := H1
  clear H1
  replace H := Option.bind_eq_some_iff.mp H
  obtain ⟨t162, A50, H⟩ := H
  replace H : (if t162 = true then (impl_NetOfOrder.l0 k l1 0 l0 (l0.length : Int) 0) else (some (0, 2))) = some (r1, r2) := H
  have A5 := Aside0.mk A50
  clear A50
  by_cases c6 : t162 = true
  ·
   subst c6
   have H1 : (impl_NetOfOrder.l0 k l1 0 l0 (l0.length : Int) 0) = some (r1, r2) := by rw [if_pos rfl] at H; exact H
   clear H
   have H := H1
   clear H1
   have H' := Aside0.mk H
   clear H
   go_enter Try.func50, Try.ntmps50
   go_wp2_with (first | (go_at_call 45; (with_reducible refine (impl_AreArticles.calls k _ _ l0 true _ ?side1 ?side2 A3.out).mono ?_); (case side1 => repeat (first | exact HR0.out | (with_reducible first | apply cA | apply cN | apply cD))); (case side2 => exact HC0.out); rintro e w7 ⟨rfl, hb⟩; have n0_ := Aside0.mk (below_step (by repeat (first | (with_reducible first | exact HB.out | apply lA | apply lN | apply lD) | exact HB.out)) hb); clear HB; have HB := n0_; clear n0_; (try clear hb); (try clear hb2); (try clear hk); (try clear hi)) | (go_at_call 80; (with_reducible refine (impl_areCounts.calls k _ _ l0 _ _ l1 true _ ?side1 ?side2 ?side3 ?side4 A5.out).mono ?_); (case side1 => repeat (first | exact (Kd.C_below HR0.out HB.out) | (with_reducible first | apply cA | apply cN | apply cD))); (case side2 => exact HC0.out); (case side3 => repeat (first | exact (Kd.C_below HR1.out HB.out) | (with_reducible first | apply cA | apply cN | apply cD))); (case side4 => exact HC1.out); rintro e w' ⟨rfl, ⟨nd, rfl⟩⟩; (try first | exact ⟨rfl, _, World.drewN_drewN _ _ _⟩ | exact ⟨rfl, _, Eq.trans (World.drewN_drewN _ _ _) (congrArg (World.drewN _) (Nat.add_assoc _ _ _))⟩)))
   repeat (go_quiet (first | (go_at_call 45; (with_reducible refine (impl_AreArticles.calls k _ _ l0 true _ ?side1 ?side2 A3.out).mono ?_); (case side1 => repeat (first | exact HR0.out | (with_reducible first | apply cA | apply cN | apply cD))); (case side2 => exact HC0.out); rintro e w7 ⟨rfl, hb⟩; have n0_ := Aside0.mk (below_step (by repeat (first | (with_reducible first | exact HB.out | apply lA | apply lN | apply lD) | exact HB.out)) hb); clear HB; have HB := n0_; clear n0_; (try clear hb); (try clear hb2); (try clear hk); (try clear hi)) | (go_at_call 80; (with_reducible refine (impl_areCounts.calls k _ _ l0 _ _ l1 true _ ?side1 ?side2 ?side3 ?side4 A5.out).mono ?_); (case side1 => repeat (first | exact (Kd.C_below HR0.out HB.out) | (with_reducible first | apply cA | apply cN | apply cD))); (case side2 => exact HC0.out); (case side3 => repeat (first | exact (Kd.C_below HR1.out HB.out) | (with_reducible first | apply cA | apply cN | apply cD))); (case side4 => exact HC1.out); rintro e w' ⟨rfl, ⟨nd, rfl⟩⟩; (try first | exact ⟨rfl, _, World.drewN_drewN _ _ _⟩ | exact ⟨rfl, _, Eq.trans (World.drewN_drewN _ _ _) (congrArg (World.drewN _) (Nat.add_assoc _ _ _))⟩))); try go_wp2_with (first | (go_at_call 45; (with_reducible refine (impl_AreArticles.calls k _ _ l0 true _ ?side1 ?side2 A3.out).mono ?_); (case side1 => repeat (first | exact HR0.out | (with_reducible first | apply cA | apply cN | apply cD))); (case side2 => exact HC0.out); rintro e w7 ⟨rfl, hb⟩; have n0_ := Aside0.mk (below_step (by repeat (first | (with_reducible first | exact HB.out | apply lA | apply lN | apply lD) | exact HB.out)) hb); clear HB; have HB := n0_; clear n0_; (try clear hb); (try clear hb2); (try clear hk); (try clear hi)) | (go_at_call 80; (with_reducible refine (impl_areCounts.calls k _ _ l0 _ _ l1 true _ ?side1 ?side2 ?side3 ?side4 A5.out).mono ?_); (case side1 => repeat (first | exact (Kd.C_below HR0.out HB.out) | (with_reducible first | apply cA | apply cN | apply cD))); (case side2 => exact HC0.out); (case side3 => repeat (first | exact (Kd.C_below HR1.out HB.out) | (with_reducible first | apply cA | apply cN | apply cD))); (case side4 => exact HC1.out); rintro e w' ⟨rfl, ⟨nd, rfl⟩⟩; (try first | exact ⟨rfl, _, World.drewN_drewN _ _ _⟩ | exact ⟨rfl, _, Eq.trans (World.drewN_drewN _ _ _) (congrArg (World.drewN _) (Nat.add_assoc _ _ _))⟩))))
   go_loopg [6, 18] k (fun kq v6 v18 w' => ∃ (x6_1 : Int) (x18_1 : Int), v6 = .int .i64 x6_1 ∧ v18 = .int .i64 x18_1 ∧ Aside0 (impl_NetOfOrder.l0 kq l1 x6_1 l0 (l0.length : Int) x18_1 = some (r1, r2)) ∧ Aside0 (kq ≤ k) ∧ Aside0 (Below w.heap.size w w'))
   case atStart => exact ⟨(0), (0), (by first | rfl | (simp; done) | (simp [*]; done)), (by first | rfl | (simp; done) | (simp [*]; done)), H', ⟨Nat.le_refl _⟩, ⟨by repeat (first | (with_reducible first | exact HB.out | apply lA | apply lN | apply lD) | exact HB.out)⟩⟩
   case round =>
    clear H'
    try clear c1
    try clear p2
    try clear c4
    try clear c5
    try clear c6
    obtain ⟨x6_1, x18_1, rfl, rfl, HA, HK1, HB⟩ := hrel
    cases gk with
    | zero => exact absurd HA.out (by simp [impl_NetOfOrder.l0])
    | succ k1 =>
     have H := HA.out
     clear HA
     simp only [impl_NetOfOrder.l0] at H
     by_cases c8 : x18_1 < (l0.length : Int)
     ·
      rw [if_pos c8] at H
      have c8b0 : decide (x18_1 < (l0.length : Int)) = true := decide_eq_true c8
      clear c8
      by_cases c9 : 0 ≤ x18_1
      ·
       rw [if_pos c9] at H
       have c9b0 : decide (0 ≤ x18_1) = true := decide_eq_true c9
       clear c9
       by_cases c10 : x18_1 < (l0.length : Int)
       ·
        rw [if_pos c10] at H
        have c10b0 : decide (x18_1 < (l0.length : Int)) = true := decide_eq_true c10
        clear c10
        by_cases c11 : x18_1 < (l1.length : Int)
        ·
         rw [if_pos c11] at H
         have c11b0 : decide (x18_1 < (l1.length : Int)) = true := decide_eq_true c11
         clear c11
         have H' := Aside0.mk H
         clear H
         have p163 : 0 ≤ (x18_1 : Int) := of_decide_eq_true (by with_reducible assumption)
         have q163 : x18_1 < (l0.length : Int) := of_decide_eq_true (by with_reducible assumption)
         obtain ⟨ad163, e163, hx163_0, hx163_1, hx163_2, hx163_3, hx163_4, hx163_5, hx163_6, hx163_7, hx163_8⟩ := at_T26 HR0.out x18_1 p163 q163
         cases e163
         replace hx163_0 := cB HB.out hx163_0
         replace hx163_1 := cB HB.out hx163_1
         replace hx163_2 := cB HB.out hx163_2
         replace hx163_3 := cB HB.out hx163_3
         replace hx163_4 := cB HB.out hx163_4
         replace hx163_5 := cB HB.out hx163_5
         replace hx163_6 := cB HB.out hx163_6
         replace hx163_7 := cB HB.out hx163_7
         replace hx163_8 := cB HB.out hx163_8
         replace p163 := eq_true p163
         replace q163 := eq_true q163
         go_wp2_with (first | ((with_reducible refine gate_dst (N := 8) rfl ?_); refine box_event ?hg (N := 8) ?hd (cs := #[.string (⟨#[]⟩ : ByteArray), .int .i64 0, .int .i64 0, .int .i64 0, .int .i64 0, .int .i64 0, .int .i64 0, .int .i64 0, .int .i64 0]) (t := 26) ?hr ?_; (case hd => rfl); (case hg => rfl); (case hr => first | (go_simp; done) | (go_simp; rfl)); intro gb164 hg w12 hbox hb; have n0_ := Aside0.mk (below_step (by repeat (first | (with_reducible first | exact HB.out | apply lA | apply lN | apply lD) | exact HB.out)) hb); have n1_ := Aside0.mk (hbox); have n2_ := Aside0.mk ((by rw [hg]; exact (below_size (by repeat (first | (with_reducible first | exact HB.out | apply lA | apply lN | apply lD) | exact HB.out))) : w.heap.size ≤ gb164)); have n3_ := Aside0.mk ((by rw [hg]; exact (below_size (by repeat (first | (with_reducible first | exact HB.out | apply lA | apply lN | apply lD) | exact HB.out))) : w.heap.size ≤ gb164)); clear HB; have HB := n0_; have BK164 := n1_; have GW164 := n2_; have GE164 := n3_; clear n0_ n1_ n2_ n3_; clear hb hbox hg; have hcz13_0 : w12.cell? ⟨gb164, 0, none⟩ = some (.string (⟨#[]⟩ : ByteArray)) := (blk_cell BK164.out 0).trans rfl; have hcz13_1 : w12.cell? ⟨gb164, 1, none⟩ = some (.int .i64 0) := (blk_cell BK164.out 1).trans rfl; have hcz13_2 : w12.cell? ⟨gb164, 2, none⟩ = some (.int .i64 0) := (blk_cell BK164.out 2).trans rfl; have hcz13_3 : w12.cell? ⟨gb164, 3, none⟩ = some (.int .i64 0) := (blk_cell BK164.out 3).trans rfl; have hcz13_4 : w12.cell? ⟨gb164, 4, none⟩ = some (.int .i64 0) := (blk_cell BK164.out 4).trans rfl; have hcz13_5 : w12.cell? ⟨gb164, 5, none⟩ = some (.int .i64 0) := (blk_cell BK164.out 5).trans rfl; have hcz13_6 : w12.cell? ⟨gb164, 6, none⟩ = some (.int .i64 0) := (blk_cell BK164.out 6).trans rfl; have hcz13_7 : w12.cell? ⟨gb164, 7, none⟩ = some (.int .i64 0) := (blk_cell BK164.out 7).trans rfl; have hcz13_8 : w12.cell? ⟨gb164, 8, none⟩ = some (.int .i64 0) := (blk_cell BK164.out 8).trans rfl; have hfz13_0 := blk_frozen BK164.out 0; have hfz13_1 := blk_frozen BK164.out 1; have hfz13_2 := blk_frozen BK164.out 2; have hfz13_3 := blk_frozen BK164.out 3; have hfz13_4 := blk_frozen BK164.out 4; have hfz13_5 := blk_frozen BK164.out 5; have hfz13_6 := blk_frozen BK164.out 6; have hfz13_7 := blk_frozen BK164.out 7; have hfz13_8 := blk_frozen BK164.out 8; have p165 : 0 ≤ (x18_1 : Int) := of_decide_eq_true (by with_reducible assumption); have q165 : x18_1 < (l1.length : Int) := of_decide_eq_true (by with_reducible assumption); obtain ⟨ad165, e165, hx165_0⟩ := Kd.at_int HR1.out x18_1 p165 q165; cases e165; have hn165_0 : ad165.block ≠ gb164 := Nat.ne_of_lt (Nat.lt_of_lt_of_le (by have := World.block_lt_of_cell? _ _ hx165_0; first | rwa [add_block] at this | exact this) GW164.out); have hn165_1 : ad165.block ≠ gb164 := Nat.ne_of_lt (Nat.lt_of_lt_of_le (by have := World.block_lt_of_cell? _ _ hx165_0; first | rwa [add_block] at this | exact this) GW164.out); have hn165_2 : ad165.block ≠ gb164 := Nat.ne_of_lt (Nat.lt_of_lt_of_le (by have := World.block_lt_of_cell? _ _ hx165_0; first | rwa [add_block] at this | exact this) GW164.out); have hn165_3 : ad165.block ≠ gb164 := Nat.ne_of_lt (Nat.lt_of_lt_of_le (by have := World.block_lt_of_cell? _ _ hx165_0; first | rwa [add_block] at this | exact this) GW164.out); have hn165_4 : ad165.block ≠ gb164 := Nat.ne_of_lt (Nat.lt_of_lt_of_le (by have := World.block_lt_of_cell? _ _ hx165_0; first | rwa [add_block] at this | exact this) GW164.out); have hn165_5 : ad165.block ≠ gb164 := Nat.ne_of_lt (Nat.lt_of_lt_of_le (by have := World.block_lt_of_cell? _ _ hx165_0; first | rwa [add_block] at this | exact this) GW164.out); have hn165_6 : ad165.block ≠ gb164 := Nat.ne_of_lt (Nat.lt_of_lt_of_le (by have := World.block_lt_of_cell? _ _ hx165_0; first | rwa [add_block] at this | exact this) GW164.out); have hn165_7 : ad165.block ≠ gb164 := Nat.ne_of_lt (Nat.lt_of_lt_of_le (by have := World.block_lt_of_cell? _ _ hx165_0; first | rwa [add_block] at this | exact this) GW164.out); have hn165_8 : ad165.block ≠ gb164 := Nat.ne_of_lt (Nat.lt_of_lt_of_le (by have := World.block_lt_of_cell? _ _ hx165_0; first | rwa [add_block] at this | exact this) GW164.out); replace hx165_0 := cB HB.out hx165_0; replace hx165_0 := (cell_far (p := ⟨gb164, 0, none⟩) (by first | (rw [add_block]; exact hn165_0) | (show (Addr.add _ _).block ≠ _; rw [add_block]; exact hn165_0) | exact hn165_0) (.string ((rd_T26 l0 x18_1).f0))).trans hx165_0; replace hx165_0 := (cell_far (p := ⟨gb164, 1, none⟩) (by first | (rw [add_block]; exact hn165_1) | (show (Addr.add _ _).block ≠ _; rw [add_block]; exact hn165_1) | exact hn165_1) (.int .i64 ((rd_T26 l0 x18_1).f1))).trans hx165_0; replace hx165_0 := (cell_far (p := ⟨gb164, 2, none⟩) (by first | (rw [add_block]; exact hn165_2) | (show (Addr.add _ _).block ≠ _; rw [add_block]; exact hn165_2) | exact hn165_2) (.int .i64 ((rd_T26 l0 x18_1).f2))).trans hx165_0; replace hx165_0 := (cell_far (p := ⟨gb164, 3, none⟩) (by first | (rw [add_block]; exact hn165_3) | (show (Addr.add _ _).block ≠ _; rw [add_block]; exact hn165_3) | exact hn165_3) (.int .i64 ((rd_T26 l0 x18_1).f3))).trans hx165_0; replace hx165_0 := (cell_far (p := ⟨gb164, 4, none⟩) (by first | (rw [add_block]; exact hn165_4) | (show (Addr.add _ _).block ≠ _; rw [add_block]; exact hn165_4) | exact hn165_4) (.int .i64 ((rd_T26 l0 x18_1).f4))).trans hx165_0; replace hx165_0 := (cell_far (p := ⟨gb164, 5, none⟩) (by first | (rw [add_block]; exact hn165_5) | (show (Addr.add _ _).block ≠ _; rw [add_block]; exact hn165_5) | exact hn165_5) (.int .i64 ((rd_T26 l0 x18_1).f5))).trans hx165_0; replace hx165_0 := (cell_far (p := ⟨gb164, 6, none⟩) (by first | (rw [add_block]; exact hn165_6) | (show (Addr.add _ _).block ≠ _; rw [add_block]; exact hn165_6) | exact hn165_6) (.int .i64 ((rd_T26 l0 x18_1).f6))).trans hx165_0; replace hx165_0 := (cell_far (p := ⟨gb164, 7, none⟩) (by first | (rw [add_block]; exact hn165_7) | (show (Addr.add _ _).block ≠ _; rw [add_block]; exact hn165_7) | exact hn165_7) (.int .i64 ((rd_T26 l0 x18_1).f7))).trans hx165_0; replace hx165_0 := (cell_far (p := ⟨gb164, 8, none⟩) (by first | (rw [add_block]; exact hn165_8) | (show (Addr.add _ _).block ≠ _; rw [add_block]; exact hn165_8) | exact hn165_8) (.int .i64 ((rd_T26 l0 x18_1).f8))).trans hx165_0; clear hn165_0; clear hn165_1; clear hn165_2; clear hn165_3; clear hn165_4; clear hn165_5; clear hn165_6; clear hn165_7; clear hn165_8; replace p165 := eq_true p165; replace q165 := eq_true q165))
         repeat (go_quiet (first | ((with_reducible refine gate_dst (N := 8) rfl ?_); refine box_event ?hg (N := 8) ?hd (cs := #[.string (⟨#[]⟩ : ByteArray), .int .i64 0, .int .i64 0, .int .i64 0, .int .i64 0, .int .i64 0, .int .i64 0, .int .i64 0, .int .i64 0]) (t := 26) ?hr ?_; (case hd => rfl); (case hg => rfl); (case hr => first | (go_simp; done) | (go_simp; rfl)); intro gb164 hg w12 hbox hb; have n0_ := Aside0.mk (below_step (by repeat (first | (with_reducible first | exact HB.out | apply lA | apply lN | apply lD) | exact HB.out)) hb); have n1_ := Aside0.mk (hbox); have n2_ := Aside0.mk ((by rw [hg]; exact (below_size (by repeat (first | (with_reducible first | exact HB.out | apply lA | apply lN | apply lD) | exact HB.out))) : w.heap.size ≤ gb164)); have n3_ := Aside0.mk ((by rw [hg]; exact (below_size (by repeat (first | (with_reducible first | exact HB.out | apply lA | apply lN | apply lD) | exact HB.out))) : w.heap.size ≤ gb164)); clear HB; have HB := n0_; have BK164 := n1_; have GW164 := n2_; have GE164 := n3_; clear n0_ n1_ n2_ n3_; clear hb hbox hg; have hcz13_0 : w12.cell? ⟨gb164, 0, none⟩ = some (.string (⟨#[]⟩ : ByteArray)) := (blk_cell BK164.out 0).trans rfl; have hcz13_1 : w12.cell? ⟨gb164, 1, none⟩ = some (.int .i64 0) := (blk_cell BK164.out 1).trans rfl; have hcz13_2 : w12.cell? ⟨gb164, 2, none⟩ = some (.int .i64 0) := (blk_cell BK164.out 2).trans rfl; have hcz13_3 : w12.cell? ⟨gb164, 3, none⟩ = some (.int .i64 0) := (blk_cell BK164.out 3).trans rfl; have hcz13_4 : w12.cell? ⟨gb164, 4, none⟩ = some (.int .i64 0) := (blk_cell BK164.out 4).trans rfl; have hcz13_5 : w12.cell? ⟨gb164, 5, none⟩ = some (.int .i64 0) := (blk_cell BK164.out 5).trans rfl; have hcz13_6 : w12.cell? ⟨gb164, 6, none⟩ = some (.int .i64 0) := (blk_cell BK164.out 6).trans rfl; have hcz13_7 : w12.cell? ⟨gb164, 7, none⟩ = some (.int .i64 0) := (blk_cell BK164.out 7).trans rfl; have hcz13_8 : w12.cell? ⟨gb164, 8, none⟩ = some (.int .i64 0) := (blk_cell BK164.out 8).trans rfl; have hfz13_0 := blk_frozen BK164.out 0; have hfz13_1 := blk_frozen BK164.out 1; have hfz13_2 := blk_frozen BK164.out 2; have hfz13_3 := blk_frozen BK164.out 3; have hfz13_4 := blk_frozen BK164.out 4; have hfz13_5 := blk_frozen BK164.out 5; have hfz13_6 := blk_frozen BK164.out 6; have hfz13_7 := blk_frozen BK164.out 7; have hfz13_8 := blk_frozen BK164.out 8; have p165 : 0 ≤ (x18_1 : Int) := of_decide_eq_true (by with_reducible assumption); have q165 : x18_1 < (l1.length : Int) := of_decide_eq_true (by with_reducible assumption); obtain ⟨ad165, e165, hx165_0⟩ := Kd.at_int HR1.out x18_1 p165 q165; cases e165; have hn165_0 : ad165.block ≠ gb164 := Nat.ne_of_lt (Nat.lt_of_lt_of_le (by have := World.block_lt_of_cell? _ _ hx165_0; first | rwa [add_block] at this | exact this) GW164.out); have hn165_1 : ad165.block ≠ gb164 := Nat.ne_of_lt (Nat.lt_of_lt_of_le (by have := World.block_lt_of_cell? _ _ hx165_0; first | rwa [add_block] at this | exact this) GW164.out); have hn165_2 : ad165.block ≠ gb164 := Nat.ne_of_lt (Nat.lt_of_lt_of_le (by have := World.block_lt_of_cell? _ _ hx165_0; first | rwa [add_block] at this | exact this) GW164.out); have hn165_3 : ad165.block ≠ gb164 := Nat.ne_of_lt (Nat.lt_of_lt_of_le (by have := World.block_lt_of_cell? _ _ hx165_0; first | rwa [add_block] at this | exact this) GW164.out); have hn165_4 : ad165.block ≠ gb164 := Nat.ne_of_lt (Nat.lt_of_lt_of_le (by have := World.block_lt_of_cell? _ _ hx165_0; first | rwa [add_block] at this | exact this) GW164.out); have hn165_5 : ad165.block ≠ gb164 := Nat.ne_of_lt (Nat.lt_of_lt_of_le (by have := World.block_lt_of_cell? _ _ hx165_0; first | rwa [add_block] at this | exact this) GW164.out); have hn165_6 : ad165.block ≠ gb164 := Nat.ne_of_lt (Nat.lt_of_lt_of_le (by have := World.block_lt_of_cell? _ _ hx165_0; first | rwa [add_block] at this | exact this) GW164.out); have hn165_7 : ad165.block ≠ gb164 := Nat.ne_of_lt (Nat.lt_of_lt_of_le (by have := World.block_lt_of_cell? _ _ hx165_0; first | rwa [add_block] at this | exact this) GW164.out); have hn165_8 : ad165.block ≠ gb164 := Nat.ne_of_lt (Nat.lt_of_lt_of_le (by have := World.block_lt_of_cell? _ _ hx165_0; first | rwa [add_block] at this | exact this) GW164.out); replace hx165_0 := cB HB.out hx165_0; replace hx165_0 := (cell_far (p := ⟨gb164, 0, none⟩) (by first | (rw [add_block]; exact hn165_0) | (show (Addr.add _ _).block ≠ _; rw [add_block]; exact hn165_0) | exact hn165_0) (.string ((rd_T26 l0 x18_1).f0))).trans hx165_0; replace hx165_0 := (cell_far (p := ⟨gb164, 1, none⟩) (by first | (rw [add_block]; exact hn165_1) | (show (Addr.add _ _).block ≠ _; rw [add_block]; exact hn165_1) | exact hn165_1) (.int .i64 ((rd_T26 l0 x18_1).f1))).trans hx165_0; replace hx165_0 := (cell_far (p := ⟨gb164, 2, none⟩) (by first | (rw [add_block]; exact hn165_2) | (show (Addr.add _ _).block ≠ _; rw [add_block]; exact hn165_2) | exact hn165_2) (.int .i64 ((rd_T26 l0 x18_1).f2))).trans hx165_0; replace hx165_0 := (cell_far (p := ⟨gb164, 3, none⟩) (by first | (rw [add_block]; exact hn165_3) | (show (Addr.add _ _).block ≠ _; rw [add_block]; exact hn165_3) | exact hn165_3) (.int .i64 ((rd_T26 l0 x18_1).f3))).trans hx165_0; replace hx165_0 := (cell_far (p := ⟨gb164, 4, none⟩) (by first | (rw [add_block]; exact hn165_4) | (show (Addr.add _ _).block ≠ _; rw [add_block]; exact hn165_4) | exact hn165_4) (.int .i64 ((rd_T26 l0 x18_1).f4))).trans hx165_0; replace hx165_0 := (cell_far (p := ⟨gb164, 5, none⟩) (by first | (rw [add_block]; exact hn165_5) | (show (Addr.add _ _).block ≠ _; rw [add_block]; exact hn165_5) | exact hn165_5) (.int .i64 ((rd_T26 l0 x18_1).f5))).trans hx165_0; replace hx165_0 := (cell_far (p := ⟨gb164, 6, none⟩) (by first | (rw [add_block]; exact hn165_6) | (show (Addr.add _ _).block ≠ _; rw [add_block]; exact hn165_6) | exact hn165_6) (.int .i64 ((rd_T26 l0 x18_1).f6))).trans hx165_0; replace hx165_0 := (cell_far (p := ⟨gb164, 7, none⟩) (by first | (rw [add_block]; exact hn165_7) | (show (Addr.add _ _).block ≠ _; rw [add_block]; exact hn165_7) | exact hn165_7) (.int .i64 ((rd_T26 l0 x18_1).f7))).trans hx165_0; replace hx165_0 := (cell_far (p := ⟨gb164, 8, none⟩) (by first | (rw [add_block]; exact hn165_8) | (show (Addr.add _ _).block ≠ _; rw [add_block]; exact hn165_8) | exact hn165_8) (.int .i64 ((rd_T26 l0 x18_1).f8))).trans hx165_0; clear hn165_0; clear hn165_1; clear hn165_2; clear hn165_3; clear hn165_4; clear hn165_5; clear hn165_6; clear hn165_7; clear hn165_8; replace p165 := eq_true p165; replace q165 := eq_true q165)); try go_wp2_with (first | ((with_reducible refine gate_dst (N := 8) rfl ?_); refine box_event ?hg (N := 8) ?hd (cs := #[.string (⟨#[]⟩ : ByteArray), .int .i64 0, .int .i64 0, .int .i64 0, .int .i64 0, .int .i64 0, .int .i64 0, .int .i64 0, .int .i64 0]) (t := 26) ?hr ?_; (case hd => rfl); (case hg => rfl); (case hr => first | (go_simp; done) | (go_simp; rfl)); intro gb164 hg w12 hbox hb; have n0_ := Aside0.mk (below_step (by repeat (first | (with_reducible first | exact HB.out | apply lA | apply lN | apply lD) | exact HB.out)) hb); have n1_ := Aside0.mk (hbox); have n2_ := Aside0.mk ((by rw [hg]; exact (below_size (by repeat (first | (with_reducible first | exact HB.out | apply lA | apply lN | apply lD) | exact HB.out))) : w.heap.size ≤ gb164)); have n3_ := Aside0.mk ((by rw [hg]; exact (below_size (by repeat (first | (with_reducible first | exact HB.out | apply lA | apply lN | apply lD) | exact HB.out))) : w.heap.size ≤ gb164)); clear HB; have HB := n0_; have BK164 := n1_; have GW164 := n2_; have GE164 := n3_; clear n0_ n1_ n2_ n3_; clear hb hbox hg; have hcz13_0 : w12.cell? ⟨gb164, 0, none⟩ = some (.string (⟨#[]⟩ : ByteArray)) := (blk_cell BK164.out 0).trans rfl; have hcz13_1 : w12.cell? ⟨gb164, 1, none⟩ = some (.int .i64 0) := (blk_cell BK164.out 1).trans rfl; have hcz13_2 : w12.cell? ⟨gb164, 2, none⟩ = some (.int .i64 0) := (blk_cell BK164.out 2).trans rfl; have hcz13_3 : w12.cell? ⟨gb164, 3, none⟩ = some (.int .i64 0) := (blk_cell BK164.out 3).trans rfl; have hcz13_4 : w12.cell? ⟨gb164, 4, none⟩ = some (.int .i64 0) := (blk_cell BK164.out 4).trans rfl; have hcz13_5 : w12.cell? ⟨gb164, 5, none⟩ = some (.int .i64 0) := (blk_cell BK164.out 5).trans rfl; have hcz13_6 : w12.cell? ⟨gb164, 6, none⟩ = some (.int .i64 0) := (blk_cell BK164.out 6).trans rfl; have hcz13_7 : w12.cell? ⟨gb164, 7, none⟩ = some (.int .i64 0) := (blk_cell BK164.out 7).trans rfl; have hcz13_8 : w12.cell? ⟨gb164, 8, none⟩ = some (.int .i64 0) := (blk_cell BK164.out 8).trans rfl; have hfz13_0 := blk_frozen BK164.out 0; have hfz13_1 := blk_frozen BK164.out 1; have hfz13_2 := blk_frozen BK164.out 2; have hfz13_3 := blk_frozen BK164.out 3; have hfz13_4 := blk_frozen BK164.out 4; have hfz13_5 := blk_frozen BK164.out 5; have hfz13_6 := blk_frozen BK164.out 6; have hfz13_7 := blk_frozen BK164.out 7; have hfz13_8 := blk_frozen BK164.out 8; have p165 : 0 ≤ (x18_1 : Int) := of_decide_eq_true (by with_reducible assumption); have q165 : x18_1 < (l1.length : Int) := of_decide_eq_true (by with_reducible assumption); obtain ⟨ad165, e165, hx165_0⟩ := Kd.at_int HR1.out x18_1 p165 q165; cases e165; have hn165_0 : ad165.block ≠ gb164 := Nat.ne_of_lt (Nat.lt_of_lt_of_le (by have := World.block_lt_of_cell? _ _ hx165_0; first | rwa [add_block] at this | exact this) GW164.out); have hn165_1 : ad165.block ≠ gb164 := Nat.ne_of_lt (Nat.lt_of_lt_of_le (by have := World.block_lt_of_cell? _ _ hx165_0; first | rwa [add_block] at this | exact this) GW164.out); have hn165_2 : ad165.block ≠ gb164 := Nat.ne_of_lt (Nat.lt_of_lt_of_le (by have := World.block_lt_of_cell? _ _ hx165_0; first | rwa [add_block] at this | exact this) GW164.out); have hn165_3 : ad165.block ≠ gb164 := Nat.ne_of_lt (Nat.lt_of_lt_of_le (by have := World.block_lt_of_cell? _ _ hx165_0; first | rwa [add_block] at this | exact this) GW164.out); have hn165_4 : ad165.block ≠ gb164 := Nat.ne_of_lt (Nat.lt_of_lt_of_le (by have := World.block_lt_of_cell? _ _ hx165_0; first | rwa [add_block] at this | exact this) GW164.out); have hn165_5 : ad165.block ≠ gb164 := Nat.ne_of_lt (Nat.lt_of_lt_of_le (by have := World.block_lt_of_cell? _ _ hx165_0; first | rwa [add_block] at this | exact this) GW164.out); have hn165_6 : ad165.block ≠ gb164 := Nat.ne_of_lt (Nat.lt_of_lt_of_le (by have := World.block_lt_of_cell? _ _ hx165_0; first | rwa [add_block] at this | exact this) GW164.out); have hn165_7 : ad165.block ≠ gb164 := Nat.ne_of_lt (Nat.lt_of_lt_of_le (by have := World.block_lt_of_cell? _ _ hx165_0; first | rwa [add_block] at this | exact this) GW164.out); have hn165_8 : ad165.block ≠ gb164 := Nat.ne_of_lt (Nat.lt_of_lt_of_le (by have := World.block_lt_of_cell? _ _ hx165_0; first | rwa [add_block] at this | exact this) GW164.out); replace hx165_0 := cB HB.out hx165_0; replace hx165_0 := (cell_far (p := ⟨gb164, 0, none⟩) (by first | (rw [add_block]; exact hn165_0) | (show (Addr.add _ _).block ≠ _; rw [add_block]; exact hn165_0) | exact hn165_0) (.string ((rd_T26 l0 x18_1).f0))).trans hx165_0; replace hx165_0 := (cell_far (p := ⟨gb164, 1, none⟩) (by first | (rw [add_block]; exact hn165_1) | (show (Addr.add _ _).block ≠ _; rw [add_block]; exact hn165_1) | exact hn165_1) (.int .i64 ((rd_T26 l0 x18_1).f1))).trans hx165_0; replace hx165_0 := (cell_far (p := ⟨gb164, 2, none⟩) (by first | (rw [add_block]; exact hn165_2) | (show (Addr.add _ _).block ≠ _; rw [add_block]; exact hn165_2) | exact hn165_2) (.int .i64 ((rd_T26 l0 x18_1).f2))).trans hx165_0; replace hx165_0 := (cell_far (p := ⟨gb164, 3, none⟩) (by first | (rw [add_block]; exact hn165_3) | (show (Addr.add _ _).block ≠ _; rw [add_block]; exact hn165_3) | exact hn165_3) (.int .i64 ((rd_T26 l0 x18_1).f3))).trans hx165_0; replace hx165_0 := (cell_far (p := ⟨gb164, 4, none⟩) (by first | (rw [add_block]; exact hn165_4) | (show (Addr.add _ _).block ≠ _; rw [add_block]; exact hn165_4) | exact hn165_4) (.int .i64 ((rd_T26 l0 x18_1).f4))).trans hx165_0; replace hx165_0 := (cell_far (p := ⟨gb164, 5, none⟩) (by first | (rw [add_block]; exact hn165_5) | (show (Addr.add _ _).block ≠ _; rw [add_block]; exact hn165_5) | exact hn165_5) (.int .i64 ((rd_T26 l0 x18_1).f5))).trans hx165_0; replace hx165_0 := (cell_far (p := ⟨gb164, 6, none⟩) (by first | (rw [add_block]; exact hn165_6) | (show (Addr.add _ _).block ≠ _; rw [add_block]; exact hn165_6) | exact hn165_6) (.int .i64 ((rd_T26 l0 x18_1).f6))).trans hx165_0; replace hx165_0 := (cell_far (p := ⟨gb164, 7, none⟩) (by first | (rw [add_block]; exact hn165_7) | (show (Addr.add _ _).block ≠ _; rw [add_block]; exact hn165_7) | exact hn165_7) (.int .i64 ((rd_T26 l0 x18_1).f7))).trans hx165_0; replace hx165_0 := (cell_far (p := ⟨gb164, 8, none⟩) (by first | (rw [add_block]; exact hn165_8) | (show (Addr.add _ _).block ≠ _; rw [add_block]; exact hn165_8) | exact hn165_8) (.int .i64 ((rd_T26 l0 x18_1).f8))).trans hx165_0; clear hn165_0; clear hn165_1; clear hn165_2; clear hn165_3; clear hn165_4; clear hn165_5; clear hn165_6; clear hn165_7; clear hn165_8; replace p165 := eq_true p165; replace q165 := eq_true q165)))
         go_roundg k1
         case measure => have := HK1.out; omega
         case rel => exact ⟨(wrap64 (x6_1 + (wrap64 (((rd_T26 l0 x18_1).f7) * (rd l1 x18_1))))), (wrap64 (x18_1 + 1)), (by first | rfl | (simp; done) | (simp [*]; done)), (by first | rfl | (simp; done) | (simp [*]; done)), H', ⟨by have := HK1.out; omega⟩, ⟨by repeat (first | (with_reducible first | exact HB.out | apply lA | apply lN | apply lD | refine below_set ?_ GE164.out) | exact HB.out)⟩⟩
        ·
         rw [if_neg c11] at H
         exact absurd H (by simp)
       ·
        rw [if_neg c10] at H
        exact absurd H (by simp)
      ·
       rw [if_neg c9] at H
       exact absurd H (by simp)
     ·
      rw [if_neg c8] at H
      have c8b0 : decide (x18_1 < (l0.length : Int)) = false := decide_eq_false c8
      clear c8
      simp only [Option.some.injEq, Prod.mk.injEq] at H
      obtain ⟨rfl, rfl⟩ := H
      go_wp2
      repeat (go_quiet (fail); try go_wp2)
      go_ret2
      exact ⟨by first | rfl | (simp [errW_none, errW_some] <;> rfl) | (simp [*, errW_none, errW_some] <;> rfl), by repeat (first | (with_reducible first | exact HB.out | apply lA | apply lN | apply lD) | exact HB.out)⟩
  ·
   replace c6 := Bool.eq_false_iff.mpr c6
   subst c6
   have H1 : (some (0, 2)) = some (r1, r2) := by rw [if_neg (show ¬ (false = true) by decide)] at H; exact H
   clear H
   have H := H1
   clear H1
   simp only [Option.some.injEq, Prod.mk.injEq] at H
   obtain ⟨rfl, rfl⟩ := H
   go_enter Try.func50, Try.ntmps50
   go_wp2_with (first | (go_at_call 45; (with_reducible refine (impl_AreArticles.calls k _ _ l0 true _ ?side1 ?side2 A3.out).mono ?_); (case side1 => repeat (first | exact HR0.out | (with_reducible first | apply cA | apply cN | apply cD))); (case side2 => exact HC0.out); rintro e w14 ⟨rfl, hb⟩; have n0_ := Aside0.mk (below_step (by repeat (first | (with_reducible first | exact HB.out | apply lA | apply lN | apply lD) | exact HB.out)) hb); clear HB; have HB := n0_; clear n0_; (try clear hb); (try clear hb2); (try clear hk); (try clear hi)) | (go_at_call 80; (with_reducible refine (impl_areCounts.calls k _ _ l0 _ _ l1 false _ ?side1 ?side2 ?side3 ?side4 A5.out).mono ?_); (case side1 => repeat (first | exact (Kd.C_below HR0.out HB.out) | (with_reducible first | apply cA | apply cN | apply cD))); (case side2 => exact HC0.out); (case side3 => repeat (first | exact (Kd.C_below HR1.out HB.out) | (with_reducible first | apply cA | apply cN | apply cD))); (case side4 => exact HC1.out); rintro e w' ⟨rfl, ⟨nd, rfl⟩⟩; (try first | exact ⟨rfl, _, World.drewN_drewN _ _ _⟩ | exact ⟨rfl, _, Eq.trans (World.drewN_drewN _ _ _) (congrArg (World.drewN _) (Nat.add_assoc _ _ _))⟩)))
   repeat (go_quiet (first | (go_at_call 45; (with_reducible refine (impl_AreArticles.calls k _ _ l0 true _ ?side1 ?side2 A3.out).mono ?_); (case side1 => repeat (first | exact HR0.out | (with_reducible first | apply cA | apply cN | apply cD))); (case side2 => exact HC0.out); rintro e w14 ⟨rfl, hb⟩; have n0_ := Aside0.mk (below_step (by repeat (first | (with_reducible first | exact HB.out | apply lA | apply lN | apply lD) | exact HB.out)) hb); clear HB; have HB := n0_; clear n0_; (try clear hb); (try clear hb2); (try clear hk); (try clear hi)) | (go_at_call 80; (with_reducible refine (impl_areCounts.calls k _ _ l0 _ _ l1 false _ ?side1 ?side2 ?side3 ?side4 A5.out).mono ?_); (case side1 => repeat (first | exact (Kd.C_below HR0.out HB.out) | (with_reducible first | apply cA | apply cN | apply cD))); (case side2 => exact HC0.out); (case side3 => repeat (first | exact (Kd.C_below HR1.out HB.out) | (with_reducible first | apply cA | apply cN | apply cD))); (case side4 => exact HC1.out); rintro e w' ⟨rfl, ⟨nd, rfl⟩⟩; (try first | exact ⟨rfl, _, World.drewN_drewN _ _ _⟩ | exact ⟨rfl, _, Eq.trans (World.drewN_drewN _ _ _) (congrArg (World.drewN _) (Nat.add_assoc _ _ _))⟩))); try go_wp2_with (first | (go_at_call 45; (with_reducible refine (impl_AreArticles.calls k _ _ l0 true _ ?side1 ?side2 A3.out).mono ?_); (case side1 => repeat (first | exact HR0.out | (with_reducible first | apply cA | apply cN | apply cD))); (case side2 => exact HC0.out); rintro e w14 ⟨rfl, hb⟩; have n0_ := Aside0.mk (below_step (by repeat (first | (with_reducible first | exact HB.out | apply lA | apply lN | apply lD) | exact HB.out)) hb); clear HB; have HB := n0_; clear n0_; (try clear hb); (try clear hb2); (try clear hk); (try clear hi)) | (go_at_call 80; (with_reducible refine (impl_areCounts.calls k _ _ l0 _ _ l1 false _ ?side1 ?side2 ?side3 ?side4 A5.out).mono ?_); (case side1 => repeat (first | exact (Kd.C_below HR0.out HB.out) | (with_reducible first | apply cA | apply cN | apply cD))); (case side2 => exact HC0.out); (case side3 => repeat (first | exact (Kd.C_below HR1.out HB.out) | (with_reducible first | apply cA | apply cN | apply cD))); (case side4 => exact HC1.out); rintro e w' ⟨rfl, ⟨nd, rfl⟩⟩; (try first | exact ⟨rfl, _, World.drewN_drewN _ _ _⟩ | exact ⟨rfl, _, Eq.trans (World.drewN_drewN _ _ _) (congrArg (World.drewN _) (Nat.add_assoc _ _ _))⟩))))
   go_ret2
   exact ⟨by first | rfl | (simp [errW_none, errW_some] <;> rfl) | (simp [*, errW_none, errW_some] <;> rfl), by repeat (first | (with_reducible first | exact HB.out | apply lA | apply lN | apply lD) | exact HB.out)⟩
 ·
  replace c4 := Bool.eq_false_iff.mpr c4
  subst c4
  have H1 : (some (0, 1)) = some (r1, r2) := by rw [if_neg (show ¬ (false = true) by decide)] at H; exact H
  clear H
  have H := H1
  clear H1
  simp only [Option.some.injEq, Prod.mk.injEq] at H
  obtain ⟨rfl, rfl⟩ := H
  go_enter Try.func50, Try.ntmps50
  go_wp2_with (first | (go_at_call 45; (with_reducible refine (impl_AreArticles.calls k _ _ l0 false _ ?side1 ?side2 A3.out).mono ?_); (case side1 => repeat (first | exact HR0.out | (with_reducible first | apply cA | apply cN | apply cD))); (case side2 => exact HC0.out); rintro e w15 ⟨rfl, hb⟩; have n0_ := Aside0.mk (below_step (by repeat (first | (with_reducible first | exact HB.out | apply lA | apply lN | apply lD) | exact HB.out)) hb); clear HB; have HB := n0_; clear n0_; (try clear hb); (try clear hb2); (try clear hk); (try clear hi)))
  repeat (go_quiet (first | (go_at_call 45; (with_reducible refine (impl_AreArticles.calls k _ _ l0 false _ ?side1 ?side2 A3.out).mono ?_); (case side1 => repeat (first | exact HR0.out | (with_reducible first | apply cA | apply cN | apply cD))); (case side2 => exact HC0.out); rintro e w15 ⟨rfl, hb⟩; have n0_ := Aside0.mk (below_step (by repeat (first | (with_reducible first | exact HB.out | apply lA | apply lN | apply lD) | exact HB.out)) hb); clear HB; have HB := n0_; clear n0_; (try clear hb); (try clear hb2); (try clear hk); (try clear hi))); try go_wp2_with (first | (go_at_call 45; (with_reducible refine (impl_AreArticles.calls k _ _ l0 false _ ?side1 ?side2 A3.out).mono ?_); (case side1 => repeat (first | exact HR0.out | (with_reducible first | apply cA | apply cN | apply cD))); (case side2 => exact HC0.out); rintro e w15 ⟨rfl, hb⟩; have n0_ := Aside0.mk (below_step (by repeat (first | (with_reducible first | exact HB.out | apply lA | apply lN | apply lD) | exact HB.out)) hb); clear HB; have HB := n0_; clear n0_; (try clear hb); (try clear hb2); (try clear hk); (try clear hi))))
  go_ret2
  exact ⟨by first | rfl | (simp [errW_none, errW_some] <;> rfl) | (simp [*, errW_none, errW_some] <;> rfl), by repeat (first | (with_reducible first | exact HB.out | apply lA | apply lN | apply lD) | exact HB.out)⟩

end Go.Proofs.Ytmepklccbogibaa.QFnOrders
