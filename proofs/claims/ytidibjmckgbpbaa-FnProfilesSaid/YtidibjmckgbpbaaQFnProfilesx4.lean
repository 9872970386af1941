-- Written by a program of this project's session, after the kit's print (a turned copy of its programs). Lean checks it.
import Derived.Test.YtidibjmckgbpbaaQFnProfilesx0
namespace Go.Proofs.Ytidibjmckgbpbaa.QFnProfiles
open Go.RowKit Go.Proofs.YtidibjmckgbpbaaW.PrintWords Go.Proofs.YtidibjmckgbpbaaW.PrintLast Go.Proofs.YtidibjmckgbpbaaW.PrintMore
attribute [local go_sem] max2_int min2_int max_two min_two max_three min_three max_four min_four   -- for this text's walks alone
set_option linter.unusedVariables false
set_option linter.unusedSimpArgs false

/-! ### spec_l05Find: function 54 -/
def spec_l05Find.l0 : Nat → List (S55) → Int → Int → Option (Int)
 | 0, _, _, _ => none
 | k + 1, x0, x1, x5 => if x5 < (x0.length : Int) then (if 0 ≤ x5 then (if ((rd_T55 x0 x5).f0) ≥ x1 then (some x5) else (spec_l05Find.l0 k x0 x1 (wrap64 (x5 + 1)))) else (none)) else (some (-1))
def spec_l05Find.f (k : Nat) (l0 : List (S55)) (a1 : Int) : Option (Int) := spec_l05Find.l0 k l0 a1 0
theorem spec_l05Find.mono_l : ∀ k, (∀ y0 y1 y2, LeO (spec_l05Find.l0 k y0 y1 y2) (spec_l05Find.l0 (k + 1) y0 y1 y2))
 | 0 => fun _ _ _ r h => by simp [spec_l05Find.l0] at h
 | k + 1 => by
  have ih0 := spec_l05Find.mono_l k
  ·
   intro y0 y1 y2
   unfold spec_l05Find.l0
   repeat' first
   | (with_reducible exact ih0 _ _ _)
   | (with_reducible exact LeO.refl _)
   | (with_reducible exact LeO.none _)
   | (with_reducible refine LeO.ite ?_ ?_)
   | (with_reducible refine LeO.bind ?_ (fun _ => ?_))
   | exact ih0 _ _ _
   | exact LeO.none _
   | refine LeO.ite ?_ ?_
   | refine LeO.bind ?_ (fun _ => ?_)
theorem spec_l05Find.mono : ∀ a0 a1 k, LeO (spec_l05Find.f k a0 a1) (spec_l05Find.f (k + 1) a0 a1) := by
 intro a0 a1 k
 have ih0 := spec_l05Find.mono_l k
 unfold spec_l05Find.f
 repeat' first
   | (with_reducible exact ih0 _ _ _)
   | (with_reducible exact LeO.refl _)
   | (with_reducible exact LeO.none _)
   | (with_reducible refine LeO.ite ?_ ?_)
   | (with_reducible refine LeO.bind ?_ (fun _ => ?_))
   | exact ih0 _ _ _
   | exact LeO.none _
   | refine LeO.ite ?_ ?_
   | refine LeO.bind ?_ (fun _ => ?_)
set_option maxHeartbeats 40000000 in
set_option maxRecDepth 100000 in
theorem spec_l05Find.calls (k : Nat) (A0 : Option Addr) (c0 : Nat) (l0 : List (S55)) (a1 : Int) (r : Int) (w : World) (hr0 : Kd.C k55 w A0 l0.length l0) (hc0 : l0.length ≤ c0) (h : spec_l05Find.f k l0 a1 = some r) :
  Calls Try.prog 54 #[.slice A0 l0.length c0, .int .i64 a1] w fun e w' => e = .returned (.int .i64 r) ∧ Drawn0 w w' := by
 have HR0 := Aside0.mk hr0
 have HC0 := Aside0.mk hc0
 clear hr0 hc0
 have H : (spec_l05Find.l0 k l0 a1 0) = some r := h
 clear h
 have H' := Aside0.mk H
 clear H
 go_enter Try.func54, Try.ntmps54
 go_wp2
 go_loopg [5] k (fun kq v5 w' => ∃ (x5_1 : Int), v5 = .int .i64 x5_1 ∧ Aside0 (spec_l05Find.l0 kq l0 a1 x5_1 = some r) ∧ Aside0 (kq ≤ k) ∧ Drawn0 w w')
 case atStart => exact ⟨(0), (by first | rfl | (simp; done) | (simp [*]; done)), H', ⟨Nat.le_refl _⟩, by repeat (first | exact Drawn0.refl _ | apply Drawn0.step)⟩
 case round =>
  clear H'
  try clear p2
  obtain ⟨x5_1, rfl, HA, HK1, ⟨m1, rfl⟩⟩ := hrel
  cases gk with
  | zero => exact absurd HA.out (by simp [spec_l05Find.l0])
  | succ k1 =>
   have H := HA.out
   clear HA
   simp only [spec_l05Find.l0] at H
   by_cases c3 : x5_1 < (l0.length : Int)
   ·
    rw [if_pos c3] at H
    have c3b0 : decide (x5_1 < (l0.length : Int)) = true := decide_eq_true c3
    clear c3
    by_cases c4 : 0 ≤ x5_1
    ·
     rw [if_pos c4] at H
     have c4b0 : decide (0 ≤ x5_1) = true := decide_eq_true c4
     clear c4
     by_cases c5 : ((rd_T55 l0 x5_1).f0) ≥ a1
     ·
      rw [if_pos c5] at H
      have c5b0 : decide (a1 ≤ ((rd_T55 l0 x5_1).f0)) = true := decide_eq_true c5
      clear c5
      obtain rfl := Option.some.inj H
      simp only [Option.some.injEq, Prod.mk.injEq] at H
      obtain ⟨rfl⟩ := H
      have p137 : 0 ≤ (x5_1 : Int) := of_decide_eq_true (by with_reducible assumption)
      have q137 : x5_1 < (l0.length : Int) := of_decide_eq_true (by with_reducible assumption)
      obtain ⟨ad137, e137, hx137_0, hx137_1, hx137_2⟩ := at_T55 HR0.out x5_1 p137 q137
      cases e137
      replace p137 := eq_true p137
      replace q137 := eq_true q137
      go_wp2
      go_ret
      exact ⟨by first | rfl | (simp; done) | (simp [*]; done), by repeat (first | exact Drawn0.refl _ | apply Drawn0.step)⟩
     ·
      rw [if_neg c5] at H
      have c5b0 : decide (a1 ≤ ((rd_T55 l0 x5_1).f0)) = false := decide_eq_false c5
      clear c5
      have H' := Aside0.mk H
      clear H
      have p137 : 0 ≤ (x5_1 : Int) := of_decide_eq_true (by with_reducible assumption)
      have q137 : x5_1 < (l0.length : Int) := of_decide_eq_true (by with_reducible assumption)
      obtain ⟨ad137, e137, hx137_0, hx137_1, hx137_2⟩ := at_T55 HR0.out x5_1 p137 q137
      cases e137
      replace p137 := eq_true p137
      replace q137 := eq_true q137
      go_wp2
      go_roundg k1
      case measure => have := HK1.out; omega
      case rel => exact ⟨(wrap64 (x5_1 + 1)), (by first | rfl | (simp; done) | (simp [*]; done)), H', ⟨by have := HK1.out; omega⟩, by repeat (first | exact Drawn0.refl _ | apply Drawn0.step)⟩
    ·
     rw [if_neg c4] at H
     exact absurd H (by simp)
   ·
    rw [if_neg c3] at H
    have c3b0 : decide (x5_1 < (l0.length : Int)) = false := decide_eq_false c3
    clear c3
    obtain rfl := Option.some.inj H
    simp only [Option.some.injEq, Prod.mk.injEq] at H
    obtain ⟨rfl⟩ := H
    go_wp2
    go_ret
    exact ⟨by first | rfl | (simp; done) | (simp [*]; done), by repeat (first | exact Drawn0.refl _ | apply Drawn0.step)⟩

/-! ### spec_l03Insert: function 57 -/
def spec_l03Insert.l0 : Nat → List Int → Int → Int → Option (List Int)
 | 0, _, _, _ => none
 | k + 1, x0, x1, x5 => if x5 < (x0.length : Int) then (if 0 ≤ x5 then (if (rd x0 x5) < x1 then (spec_l03Insert.l0 k x0 x1 (wrap64 (x5 + 1))) else (if (rd x0 x5) = x1 then (some x0) else (if 0 ≤ x5 ∧ x5 ≤ (x0.length : Int) ∧ x0.length + 1 < 17592186044416 then (some ([] ++ x0.take x5.toNat ++ [x1] ++ x0.drop x5.toNat)) else (none)))) else (none)) else (if 0 ≤ x5 ∧ x5 ≤ (x0.length : Int) ∧ x0.length + 1 < 17592186044416 then (some ([] ++ x0.take x5.toNat ++ [x1] ++ x0.drop x5.toNat)) else (none))
def spec_l03Insert.f (k : Nat) (l0 : List Int) (a1 : Int) : Option (List Int) := spec_l03Insert.l0 k l0 a1 0
theorem spec_l03Insert.mono_l : ∀ k, (∀ y0 y1 y2, LeO (spec_l03Insert.l0 k y0 y1 y2) (spec_l03Insert.l0 (k + 1) y0 y1 y2))
 | 0 => fun _ _ _ r h => by simp [spec_l03Insert.l0] at h
 | k + 1 => by
  have ih0 := spec_l03Insert.mono_l k
  ·
   intro y0 y1 y2
   unfold spec_l03Insert.l0
   repeat' first
   | (with_reducible exact ih0 _ _ _)
   | (with_reducible exact LeO.refl _)
   | (with_reducible exact LeO.none _)
   | (with_reducible refine LeO.ite ?_ ?_)
   | (with_reducible refine LeO.bind ?_ (fun _ => ?_))
   | exact ih0 _ _ _
   | exact LeO.none _
   | refine LeO.ite ?_ ?_
   | refine LeO.bind ?_ (fun _ => ?_)
theorem spec_l03Insert.mono : ∀ a0 a1 k, LeO (spec_l03Insert.f k a0 a1) (spec_l03Insert.f (k + 1) a0 a1) := by
 intro a0 a1 k
 have ih0 := spec_l03Insert.mono_l k
 unfold spec_l03Insert.f
 repeat' first
   | (with_reducible exact ih0 _ _ _)
   | (with_reducible exact LeO.refl _)
   | (with_reducible exact LeO.none _)
   | (with_reducible refine LeO.ite ?_ ?_)
   | (with_reducible refine LeO.bind ?_ (fun _ => ?_))
   | exact ih0 _ _ _
   | exact LeO.none _
   | refine LeO.ite ?_ ?_
   | refine LeO.bind ?_ (fun _ => ?_)
theorem world_any {P : Program} {c : Code} {Q : Exit → Act → World → Prop} {a : Act} {W : World} (F : World → Prop) (h : F W) (g : ∀ W, F W → Code.wp P c Q a W) : Code.wp P c Q a W := g W h
theorem ne_later {α : Type} {d : Kd α} {e base : Nat} {ok : Nat → Prop} {w : World} {u v : Value} {xs : List α} (h : d.R e w base ok u xs) (hn : ∃ b, v.ownBlock = some b ∧ w.heap.size ≤ b) : ∀ k, v.ownBlock = some k → some k ≠ u.ownBlock := by
 intro k hk he
 obtain ⟨b, hb, hle⟩ := hn
 have := ((Kd.R_bound h).1 k he.symm).2.2.1
 rw [hb] at hk; injection hk with hk; omega
theorem ne_earlier {α : Type} {d : Kd α} {e base : Nat} {ok : Nat → Prop} {w : World} {u v : Value} {xs : List α} (h : d.R e w base ok u xs) (hn : ∃ b, v.ownBlock = some b ∧ w.heap.size ≤ b) : ∀ k, u.ownBlock = some k → some k ≠ v.ownBlock := by
 intro k hk he
 obtain ⟨b, hb, hle⟩ := hn
 have := ((Kd.R_bound h).1 k hk).2.2.1
 rw [hb] at he; injection he with he; omega
theorem ins_to {w0 w W w1 : World} {P : Nat → Prop} {v : Value} {xs : List Int} (h : Kd.R (Kd.int .i64) 2 w1 W.heap.size (fun _ => True) v xs) (hk : w.heap.size ≤ W.heap.size) (hb : Below w0.heap.size w0 W) : Kd.R (Kd.int .i64) 2 w1 w0.heap.size (fun k_ => (P k_ ∨ w.heap.size ≤ k_)) v xs :=
 Kd.R_mono (Kd.R_lower (Kd.R_bound h) hb.size) (fun k hk_ => .inr (Nat.le_trans hk hk_.2.1))
def insR.T : Bool × List (List Nat × List Nat) := (true, [([], []), ([], []), ([], []), ([1, 2], [1, 2]), ([0, 3], [0, 3]), ([], []), ([5], [5]), ([4, 6, 4], [4, 6]), ([], []), ([], []), ([8, 9], [8, 9]), ([7, 10, 7], [7, 10]), ([11, 11, 0, 1, 2, 3, 4, 5, 6, 7, 8, 9, 10, 11], [11])])
def insR.B : List Nat := [0, 0, 0, 6, 15, 0, 32, 127, 0, 0, 768, 2047, 4095]
theorem insR.tab : rtab .any (opsOf Try.f57 6) = insR.T := by kernel_rfl
theorem insR.bits : waitsOk insR.T.2 insR.B = true := by kernel_rfl
set_option maxHeartbeats 40000000 in
set_option maxRecDepth 100000 in
theorem spec_l03Insert.calls (k : Nat) (P0_ : Nat → Prop) (u9000_ : Value) (l0 : List Int) (a1 : Int) (r : List Int) (w0 w : World) (hB : Below w0.heap.size w0 w) (ho0 : Kd.R (Kd.int .i64) 2 w w0.heap.size P0_ u9000_ l0) (h : spec_l03Insert.f k l0 a1 = some r) :
  Calls Try.prog 57 #[u9000_, .int .i64 a1] w fun e w' => ∃ v0_ : Value, e = .returned (v0_) ∧ Kd.R (Kd.int .i64) 2 w' w0.heap.size (fun k_ => (P0_ k_ ∨ w.heap.size ≤ k_)) v0_ r ∧ Below w0.heap.size w0 w' ∧ Kept w w' (fun k_ => P0_ k_) := by
 have HO0 := Aside0.mk (show Kd.R (Kd.int .i64) 2 w w0.heap.size (fun k_ => (P0_ k_ ∨ w.heap.size ≤ k_)) u9000_ l0 from Kd.R_mono ho0 (fun k_ hk => (.inl hk)))
 have HK := Aside0.mk (Kept.refl w (fun k_ => P0_ k_))
 have HW0 := Aside0.mk hB.size
 have HB := Aside0.mk hB
 clear hB
 have hlen : l0.length ≤ 9223372036854775807 := by
  obtain ⟨Ah, ch, eh⟩ := Kd.R_slice ho0
  rw [eh] at ho0
  exact (Kd.R_reads' ho0).2.2.2.1
 obtain ⟨i02, hi2, _, hsz2, _⟩ := info_parts info2
 have H : (spec_l03Insert.l0 k l0 a1 0) = some r := h
 clear h
 have H' := Aside0.mk H
 clear H
 go_enter Try.func57, Try.ntmps57
 go_wp2
 go_loopg [5] k (fun kq v5 w' => ∃ (x5_1 : Int), v5 = .int .i64 x5_1 ∧ Aside0 (spec_l03Insert.l0 kq l0 a1 x5_1 = some r) ∧ Aside0 (kq ≤ k) ∧ Aside0 (Kd.R (Kd.int .i64) 2 w' w0.heap.size (fun k_ => (P0_ k_ ∨ w.heap.size ≤ k_)) u9000_ l0) ∧ Aside0 (Kept w w' (fun k_ => P0_ k_)) ∧ Aside0 (Below w0.heap.size w0 w'))
 case atStart => exact ⟨(0), (by first | rfl | (simp; done) | (simp [*]; done)), H', ⟨Nat.le_refl _⟩, ⟨by (with_reducible repeat (first | apply rA | apply rN | apply rD)); exact HO0.out⟩, ⟨by repeat (first | (with_reducible first | exact HK.out | apply Kept.alloc | apply Kept.drewN | apply Kept.drew) | exact HK.out)⟩, ⟨by repeat (first | (with_reducible first | exact HB.out | apply lA | apply lN | apply lD) | exact HB.out)⟩⟩
 case round =>
  clear H'
  try clear p2
  obtain ⟨x5_1, rfl, HA, HK1, HO_0, HK, HB⟩ := hrel
  cases gk with
  | zero => exact absurd HA.out (by simp [spec_l03Insert.l0])
  | succ k1 =>
   have H := HA.out
   clear HA
   simp only [spec_l03Insert.l0] at H
   by_cases c3 : x5_1 < (l0.length : Int)
   ·
    rw [if_pos c3] at H
    have c3b0 : decide (x5_1 < (l0.length : Int)) = true := decide_eq_true c3
    clear c3
    by_cases c4 : 0 ≤ x5_1
    ·
     rw [if_pos c4] at H
     have c4b0 : decide (0 ≤ x5_1) = true := decide_eq_true c4
     clear c4
     by_cases c5 : (rd l0 x5_1) < a1
     ·
      rw [if_pos c5] at H
      have c5b0 : decide ((rd l0 x5_1) < a1) = true := decide_eq_true c5
      clear c5
      have H' := Aside0.mk H
      clear H
      obtain ⟨Ao6, co6, eo6⟩ := Kd.R_slice HO_0.out
      subst eo6
      have p138 : 0 ≤ (x5_1 : Int) := of_decide_eq_true (by with_reducible assumption)
      have q138 : x5_1 < (l0.length : Int) := of_decide_eq_true (by with_reducible assumption)
      obtain ⟨ad138, e138, hx138_0⟩ := Kd.at_int (Kd.R_reads' HO_0.out).2.2 x5_1 p138 q138
      cases e138
      replace p138 := eq_true p138
      replace q138 := eq_true q138
      go_wp2
      go_roundg k1
      case measure => have := HK1.out; omega
      case rel => exact ⟨(wrap64 (x5_1 + 1)), (by first | rfl | (simp; done) | (simp [*]; done)), H', ⟨by have := HK1.out; omega⟩, ⟨by (with_reducible repeat (first | apply rA | apply rN | apply rD)); exact HO_0.out⟩, ⟨by repeat (first | (with_reducible first | exact HK.out | apply Kept.alloc | apply Kept.drewN | apply Kept.drew) | exact HK.out)⟩, ⟨by repeat (first | (with_reducible first | exact HB.out | apply lA | apply lN | apply lD) | exact HB.out)⟩⟩
     ·
      rw [if_neg c5] at H
      have c5b0 : decide ((rd l0 x5_1) < a1) = false := decide_eq_false c5
      clear c5
      by_cases c7 : (rd l0 x5_1) = a1
      ·
       rw [if_pos c7] at H
       have c7b0 : ((rd l0 x5_1) == a1) = true := beq_iff_eq.mpr c7
       have c7b1 : ((rd l0 x5_1) != a1) = false := bne_eq_false_iff_eq.mpr c7
       clear c7
       obtain rfl := Option.some.inj H
       simp only [Option.some.injEq, Prod.mk.injEq] at H
       obtain ⟨rfl⟩ := H
       obtain ⟨Ao8, co8, eo8⟩ := Kd.R_slice HO_0.out
       subst eo8
       have p138 : 0 ≤ (x5_1 : Int) := of_decide_eq_true (by with_reducible assumption)
       have q138 : x5_1 < (l0.length : Int) := of_decide_eq_true (by with_reducible assumption)
       obtain ⟨ad138, e138, hx138_0⟩ := Kd.at_int (Kd.R_reads' HO_0.out).2.2 x5_1 p138 q138
       cases e138
       replace p138 := eq_true p138
       replace q138 := eq_true q138
       have p139 : 0 ≤ (x5_1 : Int) := of_decide_eq_true (by with_reducible assumption)
       have q139 : x5_1 < (l0.length : Int) := of_decide_eq_true (by with_reducible assumption)
       obtain ⟨ad139, e139, hx139_0⟩ := Kd.at_int (Kd.R_reads' HO_0.out).2.2 x5_1 p139 q139
       obtain rfl : ad138 = ad139 := (by injection e139)
       replace p139 := eq_true p139
       replace q139 := eq_true q139
       go_wp2
       go_ret
       exact ⟨_, by first | rfl | (simp [errW_none, errW_some] <;> rfl) | (simp [*, errW_none, errW_some] <;> rfl), by (with_reducible repeat (first | apply rA | apply rN | apply rD)); exact HO_0.out, by repeat (first | (with_reducible first | exact HB.out | apply lA | apply lN | apply lD) | exact HB.out), by repeat (first | (with_reducible first | exact HK.out | apply Kept.alloc | apply Kept.drewN | apply Kept.drew) | exact HK.out)⟩
      ·
       rw [if_neg c7] at H
       have c7b0 : ((rd l0 x5_1) == a1) = false := beq_eq_false_iff_ne.mpr c7
       have c7b1 : ((rd l0 x5_1) != a1) = true := bne_iff_ne.mpr c7
       by_cases c9 : 0 ≤ x5_1 ∧ x5_1 ≤ (l0.length : Int) ∧ l0.length + 1 < 17592186044416
       ·
        rw [if_pos c9] at H
        obtain ⟨h70, h71, h72⟩ := c9
        obtain ⟨Ao10, co10, eo10⟩ := Kd.R_slice HO_0.out
        subst eo10
        have p138 : 0 ≤ (x5_1 : Int) := of_decide_eq_true (by with_reducible assumption)
        have q138 : x5_1 < (l0.length : Int) := of_decide_eq_true (by with_reducible assumption)
        obtain ⟨ad138, e138, hx138_0⟩ := Kd.at_int (Kd.R_reads' HO_0.out).2.2 x5_1 p138 q138
        cases e138
        replace p138 := eq_true p138
        replace q138 := eq_true q138
        have p139 : 0 ≤ (x5_1 : Int) := of_decide_eq_true (by with_reducible assumption)
        have q139 : x5_1 < (l0.length : Int) := of_decide_eq_true (by with_reducible assumption)
        obtain ⟨ad139, e139, hx139_0⟩ := Kd.at_int (Kd.R_reads' HO_0.out).2.2 x5_1 p139 q139
        obtain rfl : ad138 = ad139 := (by injection e139)
        replace p139 := eq_true p139
        replace q139 := eq_true q139
        go_wp2
        (try clear p138)
        (try clear q138)
        (try clear p139)
        (try clear q139)
        (try clear hx138_0)
        (try clear hx139_0)
        refine world_any (fun W => Kd.R (Kd.int .i64) 2 W w0.heap.size (fun k_ => (P0_ k_ ∨ w.heap.size ≤ k_)) (.slice (some ad138) l0.length co10) l0 ∧ Below w0.heap.size w0 W ∧ Kept w W (fun k_ => P0_ k_)) ⟨(by (with_reducible repeat (first | apply rA | apply rN | apply rD)); exact HO_0.out), (by repeat (first | (with_reducible first | exact HB.out | apply lA | apply lN | apply lD) | exact HB.out)), (by repeat (first | (with_reducible first | exact HK.out | apply Kept.alloc | apply Kept.drewN | apply Kept.drew) | exact HK.out))⟩ (fun W HF_ => ?_)
        have HO9 := Aside0.mk HF_.1
        have HBW := Aside0.mk HF_.2.1
        have HKW := Aside0.mk HF_.2.2
        clear HF_ HO_0 HB HK
        have hcap := (Kd.R_reads' HO9.out).2.1
        have hcD0 := (Kd.R_reads' HO9.out).2.2
        have HCD := Aside0.mk (Kd.C_drop (m := x5_1.toNat) (c := co10) hcD0 (by omega) hcap)
        have HCT := Aside0.mk (Kd.C_take (m := x5_1.toNat) hcD0 (by omega))
        obtain ⟨T1, hT1⟩ : ∃ T_ : List Int, l0.take x5_1.toNat = T_ := ⟨_, rfl⟩
        obtain ⟨D1, hD1⟩ : ∃ T_ : List Int, l0.drop x5_1.toNat = T_ := ⟨_, rfl⟩
        have hTl : T1.length = x5_1.toNat := by rw [← hT1, List.length_take]; omega
        have hDl : D1.length = l0.length - x5_1.toNat := by rw [← hD1, List.length_drop]
        obtain ⟨AD, hAD⟩ : ∃ A_ : Option Addr, (if co10 = x5_1.toNat then (some ad138) else ((some ad138)).map (·.add (x5_1.toNat * (Kd.int .i64).sz))) = A_ := ⟨_, rfl⟩
        rw [hT1] at HCT
        rw [hD1, hAD] at HCD
        have hcut40 := cut_to (P := Try.prog) 39 2 .i64 Try.underlying39 hi2 ((some ad138)) l0.length co10 x5_1 h70 h71 hcap
        have hcut50 := cut_from (P := Try.prog) 39 2 .i64 Try.underlying39 hi2 1 hsz2 ((some ad138)) l0.length co10 x5_1 h70 h71
        rw [hTl] at HCT
        rw [hDl] at HCD
        rw [show x5_1.toNat * (Kd.int .i64).sz = x5_1.toNat * 1 from rfl] at hAD
        rw [hAD] at hcut50
        obtain ⟨cD, hcD⟩ : ∃ c_ : Nat, co10 - x5_1.toNat = c_ := ⟨_, rfl⟩
        rw [hcD] at hcut50
        have HS := Aside0.mk (below_drew1 (Below.refl W.heap.size W))
        have hsz1 : T1.length + D1.length = l0.length := by omega
        have h62 := hlen
        rw [hT1, hD1] at H
        obtain rfl := Option.some.inj H
        refine start_ (n := 13) (S := fun w' => Below W.heap.size W w') (ds := []) #[false, false, false, false, false, false, false, false, false, false, false, false, false] (by kernel_rfl) rfl rfl HS.out (fun hHeld => ?_)
        refine with_tabW insR.tab insR.bits (fun HT_ HW_ => ?_)
        refine pure_ (i := 1) (N := some 34) (v := ?_) (a' := ?_) #[false, true, false, false, false, false, false, false, false, false, false, false, false] rfl rfl (any_of HT_.out (by kernel_rfl)) (fun _ _ _ h => h) (Or.inl ⟨by rfl, ?_⟩) ?_ ?_
        rotate_left
        ·
         intro w'
         go_simp
         with_reducible rfl
        rotate_left
        ·
         simp only [Act.put, sT, s0, sS, i64_w, i32_w]
         rfl
        refine pure_ (i := 2) (N := some 35) (v := ?_) (a' := ?_) #[false, true, true, false, false, false, false, false, false, false, false, false, false] rfl rfl (any_of HT_.out (by kernel_rfl)) (fun _ _ _ h => h) (Or.inl ⟨by rfl, ?_⟩) ?_ ?_
        rotate_left
        ·
         intro w'
         go_simp
         with_reducible rfl
        rotate_left
        ·
         simp only [Act.put, sT, s0, sS, i64_w, i32_w]
         rfl
        refine pure_ (i := 3) (N := some 36) (v := ?_) (a' := ?_) #[false, true, true, true, false, false, false, false, false, false, false, false, false] rfl rfl (any_of HT_.out (by kernel_rfl)) (fun _ _ _ h => h) (Or.inl ⟨by rfl, ?_⟩) ?_ ?_
        rotate_left
        ·
         intro w'
         go_simp
         with_reducible rfl
        rotate_left
        ·
         simp only [Act.put, sT, s0, sS, i64_w, i32_w]
         rfl
        refine pure_ (i := 5) (N := some 38) (v := ?_) (a' := ?_) #[false, true, true, true, false, true, false, false, false, false, false, false, false] rfl rfl (any_of HT_.out (by kernel_rfl)) (fun _ _ _ h => h) (Or.inl ⟨by rfl, ?_⟩) ?_ ?_
        rotate_left
        ·
         intro w'
         go_simp
         with_reducible rfl
        rotate_left
        ·
         simp only [Act.put, sT, s0, sS, i64_w, i32_w]
         rfl
        refine pure_ (i := 8) (N := some 41) (v := ?_) (a' := ?_) #[false, true, true, true, false, true, false, false, true, false, false, false, false] rfl rfl (any_of HT_.out (by kernel_rfl)) (fun _ _ _ h => h) (Or.inl ⟨by rfl, ?_⟩) ?_ ?_
        rotate_left
        ·
         intro w'
         go_simp
         with_reducible rfl
        rotate_left
        ·
         simp only [Act.put, sT, s0, sS, i64_w, i32_w]
         rfl
        refine pure_ (i := 9) (N := some 42) (v := ?_) (a' := ?_) #[false, true, true, true, false, true, false, false, true, true, false, false, false] rfl rfl (any_of HT_.out (by kernel_rfl)) (fun _ _ _ h => h) (Or.inl ⟨by rfl, ?_⟩) ?_ ?_
        rotate_left
        ·
         intro w'
         go_simp
         with_reducible rfl
        rotate_left
        ·
         simp only [Act.put, sT, s0, sS, i64_w, i32_w]
         rfl
        refine pure_ (i := 10) (N := some 43) (v := ?_) (a' := ?_) #[false, true, true, true, false, true, false, false, true, true, true, false, false] rfl rfl (any_of HT_.out (by kernel_rfl)) (fun _ _ _ h => h) (Or.inl ⟨by rfl, ?_⟩) ?_ ?_
        rotate_left
        ·
         intro w'
         go_simp
         with_reducible rfl
        rotate_left
        ·
         simp only [Act.put, sT, s0, sS, i64_w, i32_w]
         rfl
        refine two_ (i := 0) (j := 6) (Ni := some 33) (Nj := some 39) #[true, true, true, true, false, true, false, false, true, true, true, false, false] #[false, true, true, true, false, true, true, false, true, true, true, false, false] rfl rfl rfl rfl (two_of HT_.out (by kernel_rfl)) (by decide) (by decide) (fun K hK => ?_) (fun K hK => ?_)
        ·
         skip
         refine Kd.R_lit_step (Kd.int .i64) _ 2 ?hg (N := 33) ?hd (xs := ([] : List Int)) (inner := []) (ok := fun _ => True) (okp := fun _ => True) ?hr ?hp (fun _ hk => hk) trivial (Below.refl _ _) (Nat.le_refl _) (by simp) ?_; (case hd => rfl); (case hg => rfl); (case hr => first | (go_simp; done) | (go_simp; rfl)); (case hp => exact (Reps.none _ _))
         intro ve we ho hb hg_ hnew_
         have HE := Aside0.mk (Kd.R_lower ho (below_size HS.out))
         have n1_ := Aside0.mk (below_step HS.out hb)
         clear HS
         have HS := n1_
         clear n1_ hb ho hg_ hnew_
         refine hK.out _ _ HS.out (fun hHeld => ?_)
         clear hK K
         refine norm_ (a' := ?_) ?_ ?_
         rotate_left
         ·
          show Act.put _ (some 33) _ = _
          simp only [Act.put, sT, s0, sS, i64_w, i32_w]
          rfl
         refine two_ (i := 4) (j := 6) (Ni := some 37) (Nj := some 39) #[true, true, true, true, true, true, false, false, true, true, true, false, false] #[true, true, true, true, false, true, true, false, true, true, true, false, false] rfl rfl rfl rfl (two_of HT_.out (by kernel_rfl)) (by decide) (by decide) (fun K hK => ?_) (fun K hK => ?_)
         ·
          skip
          refine Kd.R_append_rows_step (Kd.int .i64) (w0 := W) W.heap.size (by rfl) (.tmp 33) (.tmp 36) 39 2 (.int .i64 0) 8 rfl Try.underlying39 info2 rfl (by decide) (by omega) ve ([]) (T1) _ _ _ (fun _ => True) (fun _ => False) rfl rfl ?aO ?aR (fun _ _ h => h) (fun _ h => h.elim) ?aF ?aB ?aS ?aL ?_; (case aR => exact (Kd.C_below HCT.out HS.out)); (case aB => exact HS.out); (case aF => exact (fun _ _ => trivial)); (case aO => exact HE.out); (case aS => exact (below_size HS.out)); (case aL => simp only [List.length_append, List.length_nil, List.length_singleton]; omega)
          intro vt wa ho hb hg hat
          have HT := Aside0.mk ho
          clear HS
          have HS := Aside0.mk hb
          clear hb ho hg hat
          refine hK.out _ _ HS.out (fun hHeld => ?_)
          clear hK K
          refine norm_ (a' := ?_) ?_ ?_
          rotate_left
          ·
           show Act.put _ (some 37) _ = _
           simp only [Act.put, sT, s0, sS, i64_w, i32_w]
           rfl
          refine one_ (i := 6) (N := some 39) #[true, true, true, true, true, true, true, false, true, true, true, false, false] rfl rfl (one_of HT_.out (by kernel_rfl)) (by decide) (fun K hK => ?_)
          refine Kd.R_lit_step (Kd.int .i64) _ 2 ?hg (N := 39) ?hd (xs := ([a1] : List Int)) (inner := [.int .i64 (a1)]) (ok := fun _ => True) (okp := fun _ => True) ?hr ?hp (fun _ hk => hk) trivial (Below.refl _ _) (Nat.le_refl _) (by simp) ?_; (case hd => rfl); (case hg => rfl); (case hr => first | (go_simp; done) | (go_simp; rfl)); (case hp => exact (Reps.one (show Kd.M (Kd.int .i64) _ _ _ (a1) [.int .i64 (a1)] from rfl) (Reps.none _ _)))
          intro vl wl ho hb hg_ hnew_
          obtain ⟨Al, cl, el⟩ := Kd.R_slice ho
          subst el
          have n0_ := Aside0.mk (Kd.R_below HT.out hb)
          clear HT
          have HT := n0_
          clear n0_
          have HL := Aside0.mk (Kd.R_lower ho (below_size HS.out))
          have n1_ := Aside0.mk (below_step HS.out hb)
          clear HS
          have HS := n1_
          clear n1_ hb ho hg_ hnew_
          refine hK.out _ _ HS.out (fun hHeld => ?_)
          clear hK K
          refine norm_ (a' := ?_) ?_ ?_
          rotate_left
          ·
           show Act.put _ (some 39) _ = _
           simp only [Act.put, sT, s0, sS, i64_w, i32_w]
           rfl
          refine one_ (i := 7) (N := some 40) #[true, true, true, true, true, true, true, true, true, true, true, false, false] rfl rfl (one_of HT_.out (by kernel_rfl)) (by decide) (fun K hK => ?_)
          refine Kd.R_append_rows_step (Kd.int .i64) (w0 := W) W.heap.size (by rfl) (.tmp 37) (.tmp 39) 39 2 (.int .i64 0) 8 rfl Try.underlying39 info2 rfl (by decide) (by omega) vt ([] ++ T1) ([a1]) _ _ _ (fun _ => True) (fun _ => False) rfl rfl ?aO ?aR (fun _ _ h => h) (fun _ h => h.elim) ?aF ?aB ?aS ?aL ?_; (case aR => exact (Kd.R_reads' HL.out).2.2); (case aB => exact HS.out); (case aF => exact (fun _ _ => trivial)); (case aO => exact HT.out); (case aS => exact (below_size HS.out)); (case aL => simp only [List.length_append, List.length_nil, List.length_singleton]; omega)
          intro vu wa ho hb hg hat
          have HU := Aside0.mk ho
          clear HS
          have HS := Aside0.mk hb
          clear hb ho hg hat
          refine hK.out _ _ HS.out (fun hHeld => ?_)
          clear hK K
          refine norm_ (a' := ?_) ?_ ?_
          rotate_left
          ·
           show Act.put _ (some 40) _ = _
           simp only [Act.put, sT, s0, sS, i64_w, i32_w]
           rfl
          refine one_ (i := 11) (N := some 44) #[true, true, true, true, true, true, true, true, true, true, true, true, false] rfl rfl (one_of HT_.out (by kernel_rfl)) (by decide) (fun K hK => ?_)
          refine Kd.R_append_rows_step (Kd.int .i64) (w0 := W) W.heap.size (by rfl) (.tmp 40) (.tmp 43) 39 2 (.int .i64 0) 8 rfl Try.underlying39 info2 rfl (by decide) (by omega) vu ([] ++ T1 ++ [a1]) (D1) _ _ _ (fun _ => True) (fun _ => False) rfl rfl ?aO ?aR (fun _ _ h => h) (fun _ h => h.elim) ?aF ?aB ?aS ?aL ?_; (case aR => exact (Kd.C_below HCD.out HS.out)); (case aB => exact HS.out); (case aF => exact (fun _ _ => trivial)); (case aO => exact HU.out); (case aS => exact (below_size HS.out)); (case aL => simp only [List.length_append, List.length_nil, List.length_singleton]; omega)
          intro vz wa ho hb hg hat
          have HZ := Aside0.mk ho
          clear HS
          have HS := Aside0.mk hb
          clear hb ho hg hat
          refine hK.out _ _ HS.out (fun hHeld => ?_)
          clear hK K
          refine norm_ (a' := ?_) ?_ ?_
          rotate_left
          ·
           show Act.put _ (some 44) _ = _
           simp only [Act.put, sT, s0, sS, i64_w, i32_w]
           rfl
          refine pure_ (i := 12) (N := some 4) (v := ?_) (a' := ?_) #[true, true, true, true, true, true, true, true, true, true, true, true, true] rfl rfl (any_of HT_.out (by kernel_rfl)) (fun _ _ _ h => h) (Or.inl ⟨by rfl, ?_⟩) ?_ ?_
          rotate_left
          ·
           intro w'
           go_simp
           with_reducible rfl
          rotate_left
          ·
           simp only [Act.put, sT, s0, sS, i64_w, i32_w]
           rfl
          refine done_ (done_of HT_.out (by kernel_rfl)) ?_
          go_wp2
          go_ret
          exact ⟨vz, by first | rfl | (simp; done) | (simp [*]; done), ins_to (by have z_ := HZ.out; rw [show [] ++ T1 ++ [a1] ++ D1 = T1 ++ a1 :: D1 by simp] at z_; exact z_) HKW.out.1 HBW.out, below_then HBW.out HBW.out.size HS.out, Kept.below HKW.out HS.out⟩
         ·
          skip
          refine Kd.R_lit_step (Kd.int .i64) _ 2 ?hg (N := 39) ?hd (xs := ([a1] : List Int)) (inner := [.int .i64 (a1)]) (ok := fun _ => True) (okp := fun _ => True) ?hr ?hp (fun _ hk => hk) trivial (Below.refl _ _) (Nat.le_refl _) (by simp) ?_; (case hd => rfl); (case hg => rfl); (case hr => first | (go_simp; done) | (go_simp; rfl)); (case hp => exact (Reps.one (show Kd.M (Kd.int .i64) _ _ _ (a1) [.int .i64 (a1)] from rfl) (Reps.none _ _)))
          intro vl wl ho hb hg_ hnew_
          obtain ⟨Al, cl, el⟩ := Kd.R_slice ho
          subst el
          have NE := Aside0.mk (ne_earlier HE.out hnew_)
          have n0_ := Aside0.mk (Kd.R_below HE.out hb)
          clear HE
          have HE := n0_
          clear n0_
          have HL := Aside0.mk (Kd.R_lower ho (below_size HS.out))
          have n1_ := Aside0.mk (below_step HS.out hb)
          clear HS
          have HS := n1_
          clear n1_ hb ho hg_ hnew_
          refine hK.out _ _ HS.out (fun hHeld => ?_)
          clear hK K
          refine norm_ (a' := ?_) ?_ ?_
          rotate_left
          ·
           show Act.put _ (some 39) _ = _
           simp only [Act.put, sT, s0, sS, i64_w, i32_w]
           rfl
          refine one_ (i := 4) (N := some 37) #[true, true, true, true, true, true, true, false, true, true, true, false, false] rfl rfl (one_of HT_.out (by kernel_rfl)) (by decide) (fun K hK => ?_)
          refine Kd.R_append_rows_step (Kd.int .i64) (w0 := W) W.heap.size (by rfl) (.tmp 33) (.tmp 36) 39 2 (.int .i64 0) 8 rfl Try.underlying39 info2 rfl (by decide) (by omega) ve ([]) (T1) _ _ _ (fun _ => True) (fun _ => False) rfl rfl ?aO ?aR (fun _ _ h => h) (fun _ h => h.elim) ?aF ?aB ?aS ?aL ?_; (case aR => exact (Kd.C_below HCT.out HS.out)); (case aB => exact HS.out); (case aF => exact (fun _ _ => trivial)); (case aO => exact HE.out); (case aS => exact (below_size HS.out)); (case aL => simp only [List.length_append, List.length_nil, List.length_singleton]; omega)
          intro vt wa ho hb hg hat
          have n2_ := Aside0.mk (Kd.R_grown2 HL.out rfl hg (fun k_ hk_ => NE.out k_ hk_))
          clear HL
          have HL := n2_
          clear n2_ NE
          have HT := Aside0.mk ho
          clear HS
          have HS := Aside0.mk hb
          clear hb ho hg hat
          refine hK.out _ _ HS.out (fun hHeld => ?_)
          clear hK K
          refine norm_ (a' := ?_) ?_ ?_
          rotate_left
          ·
           show Act.put _ (some 37) _ = _
           simp only [Act.put, sT, s0, sS, i64_w, i32_w]
           rfl
          refine one_ (i := 7) (N := some 40) #[true, true, true, true, true, true, true, true, true, true, true, false, false] rfl rfl (one_of HT_.out (by kernel_rfl)) (by decide) (fun K hK => ?_)
          refine Kd.R_append_rows_step (Kd.int .i64) (w0 := W) W.heap.size (by rfl) (.tmp 37) (.tmp 39) 39 2 (.int .i64 0) 8 rfl Try.underlying39 info2 rfl (by decide) (by omega) vt ([] ++ T1) ([a1]) _ _ _ (fun _ => True) (fun _ => False) rfl rfl ?aO ?aR (fun _ _ h => h) (fun _ h => h.elim) ?aF ?aB ?aS ?aL ?_; (case aR => exact (Kd.R_reads' HL.out).2.2); (case aB => exact HS.out); (case aF => exact (fun _ _ => trivial)); (case aO => exact HT.out); (case aS => exact (below_size HS.out)); (case aL => simp only [List.length_append, List.length_nil, List.length_singleton]; omega)
          intro vu wa ho hb hg hat
          have HU := Aside0.mk ho
          clear HS
          have HS := Aside0.mk hb
          clear hb ho hg hat
          refine hK.out _ _ HS.out (fun hHeld => ?_)
          clear hK K
          refine norm_ (a' := ?_) ?_ ?_
          rotate_left
          ·
           show Act.put _ (some 40) _ = _
           simp only [Act.put, sT, s0, sS, i64_w, i32_w]
           rfl
          refine one_ (i := 11) (N := some 44) #[true, true, true, true, true, true, true, true, true, true, true, true, false] rfl rfl (one_of HT_.out (by kernel_rfl)) (by decide) (fun K hK => ?_)
          refine Kd.R_append_rows_step (Kd.int .i64) (w0 := W) W.heap.size (by rfl) (.tmp 40) (.tmp 43) 39 2 (.int .i64 0) 8 rfl Try.underlying39 info2 rfl (by decide) (by omega) vu ([] ++ T1 ++ [a1]) (D1) _ _ _ (fun _ => True) (fun _ => False) rfl rfl ?aO ?aR (fun _ _ h => h) (fun _ h => h.elim) ?aF ?aB ?aS ?aL ?_; (case aR => exact (Kd.C_below HCD.out HS.out)); (case aB => exact HS.out); (case aF => exact (fun _ _ => trivial)); (case aO => exact HU.out); (case aS => exact (below_size HS.out)); (case aL => simp only [List.length_append, List.length_nil, List.length_singleton]; omega)
          intro vz wa ho hb hg hat
          have HZ := Aside0.mk ho
          clear HS
          have HS := Aside0.mk hb
          clear hb ho hg hat
          refine hK.out _ _ HS.out (fun hHeld => ?_)
          clear hK K
          refine norm_ (a' := ?_) ?_ ?_
          rotate_left
          ·
           show Act.put _ (some 44) _ = _
           simp only [Act.put, sT, s0, sS, i64_w, i32_w]
           rfl
          refine pure_ (i := 12) (N := some 4) (v := ?_) (a' := ?_) #[true, true, true, true, true, true, true, true, true, true, true, true, true] rfl rfl (any_of HT_.out (by kernel_rfl)) (fun _ _ _ h => h) (Or.inl ⟨by rfl, ?_⟩) ?_ ?_
          rotate_left
          ·
           intro w'
           go_simp
           with_reducible rfl
          rotate_left
          ·
           simp only [Act.put, sT, s0, sS, i64_w, i32_w]
           rfl
          refine done_ (done_of HT_.out (by kernel_rfl)) ?_
          go_wp2
          go_ret
          exact ⟨vz, by first | rfl | (simp; done) | (simp [*]; done), ins_to (by have z_ := HZ.out; rw [show [] ++ T1 ++ [a1] ++ D1 = T1 ++ a1 :: D1 by simp] at z_; exact z_) HKW.out.1 HBW.out, below_then HBW.out HBW.out.size HS.out, Kept.below HKW.out HS.out⟩
        ·
         skip
         refine Kd.R_lit_step (Kd.int .i64) _ 2 ?hg (N := 39) ?hd (xs := ([a1] : List Int)) (inner := [.int .i64 (a1)]) (ok := fun _ => True) (okp := fun _ => True) ?hr ?hp (fun _ hk => hk) trivial (Below.refl _ _) (Nat.le_refl _) (by simp) ?_; (case hd => rfl); (case hg => rfl); (case hr => first | (go_simp; done) | (go_simp; rfl)); (case hp => exact (Reps.one (show Kd.M (Kd.int .i64) _ _ _ (a1) [.int .i64 (a1)] from rfl) (Reps.none _ _)))
         intro vl wl ho hb hg_ hnew_
         obtain ⟨Al, cl, el⟩ := Kd.R_slice ho
         subst el
         have HL := Aside0.mk (Kd.R_lower ho (below_size HS.out))
         have n1_ := Aside0.mk (below_step HS.out hb)
         clear HS
         have HS := n1_
         clear n1_ hb ho hg_ hnew_
         refine hK.out _ _ HS.out (fun hHeld => ?_)
         clear hK K
         refine norm_ (a' := ?_) ?_ ?_
         rotate_left
         ·
          show Act.put _ (some 39) _ = _
          simp only [Act.put, sT, s0, sS, i64_w, i32_w]
          rfl
         refine one_ (i := 0) (N := some 33) #[true, true, true, true, false, true, true, false, true, true, true, false, false] rfl rfl (one_of HT_.out (by kernel_rfl)) (by decide) (fun K hK => ?_)
         refine Kd.R_lit_step (Kd.int .i64) _ 2 ?hg (N := 33) ?hd (xs := ([] : List Int)) (inner := []) (ok := fun _ => True) (okp := fun _ => True) ?hr ?hp (fun _ hk => hk) trivial (Below.refl _ _) (Nat.le_refl _) (by simp) ?_; (case hd => rfl); (case hg => rfl); (case hr => first | (go_simp; done) | (go_simp; rfl)); (case hp => exact (Reps.none _ _))
         intro ve we ho hb hg_ hnew_
         have NE := Aside0.mk (ne_later HL.out hnew_)
         have n0_ := Aside0.mk (Kd.R_below HL.out hb)
         clear HL
         have HL := n0_
         clear n0_
         have HE := Aside0.mk (Kd.R_lower ho (below_size HS.out))
         have n1_ := Aside0.mk (below_step HS.out hb)
         clear HS
         have HS := n1_
         clear n1_ hb ho hg_ hnew_
         refine hK.out _ _ HS.out (fun hHeld => ?_)
         clear hK K
         refine norm_ (a' := ?_) ?_ ?_
         rotate_left
         ·
          show Act.put _ (some 33) _ = _
          simp only [Act.put, sT, s0, sS, i64_w, i32_w]
          rfl
         refine one_ (i := 4) (N := some 37) #[true, true, true, true, true, true, true, false, true, true, true, false, false] rfl rfl (one_of HT_.out (by kernel_rfl)) (by decide) (fun K hK => ?_)
         refine Kd.R_append_rows_step (Kd.int .i64) (w0 := W) W.heap.size (by rfl) (.tmp 33) (.tmp 36) 39 2 (.int .i64 0) 8 rfl Try.underlying39 info2 rfl (by decide) (by omega) ve ([]) (T1) _ _ _ (fun _ => True) (fun _ => False) rfl rfl ?aO ?aR (fun _ _ h => h) (fun _ h => h.elim) ?aF ?aB ?aS ?aL ?_; (case aR => exact (Kd.C_below HCT.out HS.out)); (case aB => exact HS.out); (case aF => exact (fun _ _ => trivial)); (case aO => exact HE.out); (case aS => exact (below_size HS.out)); (case aL => simp only [List.length_append, List.length_nil, List.length_singleton]; omega)
         intro vt wa ho hb hg hat
         have n2_ := Aside0.mk (Kd.R_grown2 HL.out rfl hg (fun k_ hk_ => NE.out k_ hk_))
         clear HL
         have HL := n2_
         clear n2_ NE
         have HT := Aside0.mk ho
         clear HS
         have HS := Aside0.mk hb
         clear hb ho hg hat
         refine hK.out _ _ HS.out (fun hHeld => ?_)
         clear hK K
         refine norm_ (a' := ?_) ?_ ?_
         rotate_left
         ·
          show Act.put _ (some 37) _ = _
          simp only [Act.put, sT, s0, sS, i64_w, i32_w]
          rfl
         refine one_ (i := 7) (N := some 40) #[true, true, true, true, true, true, true, true, true, true, true, false, false] rfl rfl (one_of HT_.out (by kernel_rfl)) (by decide) (fun K hK => ?_)
         refine Kd.R_append_rows_step (Kd.int .i64) (w0 := W) W.heap.size (by rfl) (.tmp 37) (.tmp 39) 39 2 (.int .i64 0) 8 rfl Try.underlying39 info2 rfl (by decide) (by omega) vt ([] ++ T1) ([a1]) _ _ _ (fun _ => True) (fun _ => False) rfl rfl ?aO ?aR (fun _ _ h => h) (fun _ h => h.elim) ?aF ?aB ?aS ?aL ?_; (case aR => exact (Kd.R_reads' HL.out).2.2); (case aB => exact HS.out); (case aF => exact (fun _ _ => trivial)); (case aO => exact HT.out); (case aS => exact (below_size HS.out)); (case aL => simp only [List.length_append, List.length_nil, List.length_singleton]; omega)
         intro vu wa ho hb hg hat
         have HU := Aside0.mk ho
         clear HS
         have HS := Aside0.mk hb
         clear hb ho hg hat
         refine hK.out _ _ HS.out (fun hHeld => ?_)
         clear hK K
         refine norm_ (a' := ?_) ?_ ?_
         rotate_left
         ·
          show Act.put _ (some 40) _ = _
          simp only [Act.put, sT, s0, sS, i64_w, i32_w]
          rfl
         refine one_ (i := 11) (N := some 44) #[true, true, true, true, true, true, true, true, true, true, true, true, false] rfl rfl (one_of HT_.out (by kernel_rfl)) (by decide) (fun K hK => ?_)
         refine Kd.R_append_rows_step (Kd.int .i64) (w0 := W) W.heap.size (by rfl) (.tmp 40) (.tmp 43) 39 2 (.int .i64 0) 8 rfl Try.underlying39 info2 rfl (by decide) (by omega) vu ([] ++ T1 ++ [a1]) (D1) _ _ _ (fun _ => True) (fun _ => False) rfl rfl ?aO ?aR (fun _ _ h => h) (fun _ h => h.elim) ?aF ?aB ?aS ?aL ?_; (case aR => exact (Kd.C_below HCD.out HS.out)); (case aB => exact HS.out); (case aF => exact (fun _ _ => trivial)); (case aO => exact HU.out); (case aS => exact (below_size HS.out)); (case aL => simp only [List.length_append, List.length_nil, List.length_singleton]; omega)
         intro vz wa ho hb hg hat
         have HZ := Aside0.mk ho
         clear HS
         have HS := Aside0.mk hb
         clear hb ho hg hat
         refine hK.out _ _ HS.out (fun hHeld => ?_)
         clear hK K
         refine norm_ (a' := ?_) ?_ ?_
         rotate_left
         ·
          show Act.put _ (some 44) _ = _
          simp only [Act.put, sT, s0, sS, i64_w, i32_w]
          rfl
         refine pure_ (i := 12) (N := some 4) (v := ?_) (a' := ?_) #[true, true, true, true, true, true, true, true, true, true, true, true, true] rfl rfl (any_of HT_.out (by kernel_rfl)) (fun _ _ _ h => h) (Or.inl ⟨by rfl, ?_⟩) ?_ ?_
         rotate_left
         ·
          intro w'
          go_simp
          with_reducible rfl
         rotate_left
         ·
          simp only [Act.put, sT, s0, sS, i64_w, i32_w]
          rfl
         refine done_ (done_of HT_.out (by kernel_rfl)) ?_
         go_wp2
         go_ret
         exact ⟨vz, by first | rfl | (simp; done) | (simp [*]; done), ins_to (by have z_ := HZ.out; rw [show [] ++ T1 ++ [a1] ++ D1 = T1 ++ a1 :: D1 by simp] at z_; exact z_) HKW.out.1 HBW.out, below_then HBW.out HBW.out.size HS.out, Kept.below HKW.out HS.out⟩
       ·
        rw [if_neg c9] at H
        exact absurd H (by simp)
    ·
     rw [if_neg c4] at H
     exact absurd H (by simp)
   ·
    rw [if_neg c3] at H
    have c3b0 : decide (x5_1 < (l0.length : Int)) = false := decide_eq_false c3
    clear c3
    by_cases c12 : 0 ≤ x5_1 ∧ x5_1 ≤ (l0.length : Int) ∧ l0.length + 1 < 17592186044416
    ·
     rw [if_pos c12] at H
     obtain ⟨h70, h71, h72⟩ := c12
     obtain ⟨Ao13, co13, eo13⟩ := Kd.R_slice HO_0.out
     subst eo13
     go_wp2
     refine world_any (fun W => Kd.R (Kd.int .i64) 2 W w0.heap.size (fun k_ => (P0_ k_ ∨ w.heap.size ≤ k_)) (.slice Ao13 l0.length co13) l0 ∧ Below w0.heap.size w0 W ∧ Kept w W (fun k_ => P0_ k_)) ⟨(by (with_reducible repeat (first | apply rA | apply rN | apply rD)); exact HO_0.out), (by repeat (first | (with_reducible first | exact HB.out | apply lA | apply lN | apply lD) | exact HB.out)), (by repeat (first | (with_reducible first | exact HK.out | apply Kept.alloc | apply Kept.drewN | apply Kept.drew) | exact HK.out))⟩ (fun W HF_ => ?_)
     have HO9 := Aside0.mk HF_.1
     have HBW := Aside0.mk HF_.2.1
     have HKW := Aside0.mk HF_.2.2
     clear HF_ HO_0 HB HK
     have hcap := (Kd.R_reads' HO9.out).2.1
     have hcD0 := (Kd.R_reads' HO9.out).2.2
     have HCD := Aside0.mk (Kd.C_drop (m := x5_1.toNat) (c := co13) hcD0 (by omega) hcap)
     have HCT := Aside0.mk (Kd.C_take (m := x5_1.toNat) hcD0 (by omega))
     obtain ⟨T1, hT1⟩ : ∃ T_ : List Int, l0.take x5_1.toNat = T_ := ⟨_, rfl⟩
     obtain ⟨D1, hD1⟩ : ∃ T_ : List Int, l0.drop x5_1.toNat = T_ := ⟨_, rfl⟩
     have hTl : T1.length = x5_1.toNat := by rw [← hT1, List.length_take]; omega
     have hDl : D1.length = l0.length - x5_1.toNat := by rw [← hD1, List.length_drop]
     obtain ⟨AD, hAD⟩ : ∃ A_ : Option Addr, (if co13 = x5_1.toNat then Ao13 else (Ao13).map (·.add (x5_1.toNat * (Kd.int .i64).sz))) = A_ := ⟨_, rfl⟩
     rw [hT1] at HCT
     rw [hD1, hAD] at HCD
     have hcut40 := cut_to (P := Try.prog) 39 2 .i64 Try.underlying39 hi2 (Ao13) l0.length co13 x5_1 h70 h71 hcap
     have hcut50 := cut_from (P := Try.prog) 39 2 .i64 Try.underlying39 hi2 1 hsz2 (Ao13) l0.length co13 x5_1 h70 h71
     rw [hTl] at HCT
     rw [hDl] at HCD
     rw [show x5_1.toNat * (Kd.int .i64).sz = x5_1.toNat * 1 from rfl] at hAD
     rw [hAD] at hcut50
     obtain ⟨cD, hcD⟩ : ∃ c_ : Nat, co13 - x5_1.toNat = c_ := ⟨_, rfl⟩
     rw [hcD] at hcut50
     have HS := Aside0.mk (below_drew1 (Below.refl W.heap.size W))
     have hsz1 : T1.length + D1.length = l0.length := by omega
     have h62 := hlen
     rw [hT1, hD1] at H
     obtain rfl := Option.some.inj H
     refine start_ (n := 13) (S := fun w' => Below W.heap.size W w') (ds := []) #[false, false, false, false, false, false, false, false, false, false, false, false, false] (by kernel_rfl) rfl rfl HS.out (fun hHeld => ?_)
     refine with_tabW insR.tab insR.bits (fun HT_ HW_ => ?_)
     refine pure_ (i := 1) (N := some 34) (v := ?_) (a' := ?_) #[false, true, false, false, false, false, false, false, false, false, false, false, false] rfl rfl (any_of HT_.out (by kernel_rfl)) (fun _ _ _ h => h) (Or.inl ⟨by rfl, ?_⟩) ?_ ?_
     rotate_left
     ·
      intro w'
      go_simp
      with_reducible rfl
     rotate_left
     ·
      simp only [Act.put, sT, s0, sS, i64_w, i32_w]
      rfl
     refine pure_ (i := 2) (N := some 35) (v := ?_) (a' := ?_) #[false, true, true, false, false, false, false, false, false, false, false, false, false] rfl rfl (any_of HT_.out (by kernel_rfl)) (fun _ _ _ h => h) (Or.inl ⟨by rfl, ?_⟩) ?_ ?_
     rotate_left
     ·
      intro w'
      go_simp
      with_reducible rfl
     rotate_left
     ·
      simp only [Act.put, sT, s0, sS, i64_w, i32_w]
      rfl
     refine pure_ (i := 3) (N := some 36) (v := ?_) (a' := ?_) #[false, true, true, true, false, false, false, false, false, false, false, false, false] rfl rfl (any_of HT_.out (by kernel_rfl)) (fun _ _ _ h => h) (Or.inl ⟨by rfl, ?_⟩) ?_ ?_
     rotate_left
     ·
      intro w'
      go_simp
      with_reducible rfl
     rotate_left
     ·
      simp only [Act.put, sT, s0, sS, i64_w, i32_w]
      rfl
     refine pure_ (i := 5) (N := some 38) (v := ?_) (a' := ?_) #[false, true, true, true, false, true, false, false, false, false, false, false, false] rfl rfl (any_of HT_.out (by kernel_rfl)) (fun _ _ _ h => h) (Or.inl ⟨by rfl, ?_⟩) ?_ ?_
     rotate_left
     ·
      intro w'
      go_simp
      with_reducible rfl
     rotate_left
     ·
      simp only [Act.put, sT, s0, sS, i64_w, i32_w]
      rfl
     refine pure_ (i := 8) (N := some 41) (v := ?_) (a' := ?_) #[false, true, true, true, false, true, false, false, true, false, false, false, false] rfl rfl (any_of HT_.out (by kernel_rfl)) (fun _ _ _ h => h) (Or.inl ⟨by rfl, ?_⟩) ?_ ?_
     rotate_left
     ·
      intro w'
      go_simp
      with_reducible rfl
     rotate_left
     ·
      simp only [Act.put, sT, s0, sS, i64_w, i32_w]
      rfl
     refine pure_ (i := 9) (N := some 42) (v := ?_) (a' := ?_) #[false, true, true, true, false, true, false, false, true, true, false, false, false] rfl rfl (any_of HT_.out (by kernel_rfl)) (fun _ _ _ h => h) (Or.inl ⟨by rfl, ?_⟩) ?_ ?_
     rotate_left
     ·
      intro w'
      go_simp
      with_reducible rfl
     rotate_left
     ·
      simp only [Act.put, sT, s0, sS, i64_w, i32_w]
      rfl
     refine pure_ (i := 10) (N := some 43) (v := ?_) (a' := ?_) #[false, true, true, true, false, true, false, false, true, true, true, false, false] rfl rfl (any_of HT_.out (by kernel_rfl)) (fun _ _ _ h => h) (Or.inl ⟨by rfl, ?_⟩) ?_ ?_
     rotate_left
     ·
      intro w'
      go_simp
      with_reducible rfl
     rotate_left
     ·
      simp only [Act.put, sT, s0, sS, i64_w, i32_w]
      rfl
     refine two_ (i := 0) (j := 6) (Ni := some 33) (Nj := some 39) #[true, true, true, true, false, true, false, false, true, true, true, false, false] #[false, true, true, true, false, true, true, false, true, true, true, false, false] rfl rfl rfl rfl (two_of HT_.out (by kernel_rfl)) (by decide) (by decide) (fun K hK => ?_) (fun K hK => ?_)
     ·
      skip
      refine Kd.R_lit_step (Kd.int .i64) _ 2 ?hg (N := 33) ?hd (xs := ([] : List Int)) (inner := []) (ok := fun _ => True) (okp := fun _ => True) ?hr ?hp (fun _ hk => hk) trivial (Below.refl _ _) (Nat.le_refl _) (by simp) ?_; (case hd => rfl); (case hg => rfl); (case hr => first | (go_simp; done) | (go_simp; rfl)); (case hp => exact (Reps.none _ _))
      intro ve we ho hb hg_ hnew_
      have HE := Aside0.mk (Kd.R_lower ho (below_size HS.out))
      have n1_ := Aside0.mk (below_step HS.out hb)
      clear HS
      have HS := n1_
      clear n1_ hb ho hg_ hnew_
      refine hK.out _ _ HS.out (fun hHeld => ?_)
      clear hK K
      refine norm_ (a' := ?_) ?_ ?_
      rotate_left
      ·
       show Act.put _ (some 33) _ = _
       simp only [Act.put, sT, s0, sS, i64_w, i32_w]
       rfl
      refine two_ (i := 4) (j := 6) (Ni := some 37) (Nj := some 39) #[true, true, true, true, true, true, false, false, true, true, true, false, false] #[true, true, true, true, false, true, true, false, true, true, true, false, false] rfl rfl rfl rfl (two_of HT_.out (by kernel_rfl)) (by decide) (by decide) (fun K hK => ?_) (fun K hK => ?_)
      ·
       skip
       refine Kd.R_append_rows_step (Kd.int .i64) (w0 := W) W.heap.size (by rfl) (.tmp 33) (.tmp 36) 39 2 (.int .i64 0) 8 rfl Try.underlying39 info2 rfl (by decide) (by omega) ve ([]) (T1) _ _ _ (fun _ => True) (fun _ => False) rfl rfl ?aO ?aR (fun _ _ h => h) (fun _ h => h.elim) ?aF ?aB ?aS ?aL ?_; (case aR => exact (Kd.C_below HCT.out HS.out)); (case aB => exact HS.out); (case aF => exact (fun _ _ => trivial)); (case aO => exact HE.out); (case aS => exact (below_size HS.out)); (case aL => simp only [List.length_append, List.length_nil, List.length_singleton]; omega)
       intro vt wa ho hb hg hat
       have HT := Aside0.mk ho
       clear HS
       have HS := Aside0.mk hb
       clear hb ho hg hat
       refine hK.out _ _ HS.out (fun hHeld => ?_)
       clear hK K
       refine norm_ (a' := ?_) ?_ ?_
       rotate_left
       ·
        show Act.put _ (some 37) _ = _
        simp only [Act.put, sT, s0, sS, i64_w, i32_w]
        rfl
       refine one_ (i := 6) (N := some 39) #[true, true, true, true, true, true, true, false, true, true, true, false, false] rfl rfl (one_of HT_.out (by kernel_rfl)) (by decide) (fun K hK => ?_)
       refine Kd.R_lit_step (Kd.int .i64) _ 2 ?hg (N := 39) ?hd (xs := ([a1] : List Int)) (inner := [.int .i64 (a1)]) (ok := fun _ => True) (okp := fun _ => True) ?hr ?hp (fun _ hk => hk) trivial (Below.refl _ _) (Nat.le_refl _) (by simp) ?_; (case hd => rfl); (case hg => rfl); (case hr => first | (go_simp; done) | (go_simp; rfl)); (case hp => exact (Reps.one (show Kd.M (Kd.int .i64) _ _ _ (a1) [.int .i64 (a1)] from rfl) (Reps.none _ _)))
       intro vl wl ho hb hg_ hnew_
       obtain ⟨Al, cl, el⟩ := Kd.R_slice ho
       subst el
       have n0_ := Aside0.mk (Kd.R_below HT.out hb)
       clear HT
       have HT := n0_
       clear n0_
       have HL := Aside0.mk (Kd.R_lower ho (below_size HS.out))
       have n1_ := Aside0.mk (below_step HS.out hb)
       clear HS
       have HS := n1_
       clear n1_ hb ho hg_ hnew_
       refine hK.out _ _ HS.out (fun hHeld => ?_)
       clear hK K
       refine norm_ (a' := ?_) ?_ ?_
       rotate_left
       ·
        show Act.put _ (some 39) _ = _
        simp only [Act.put, sT, s0, sS, i64_w, i32_w]
        rfl
       refine one_ (i := 7) (N := some 40) #[true, true, true, true, true, true, true, true, true, true, true, false, false] rfl rfl (one_of HT_.out (by kernel_rfl)) (by decide) (fun K hK => ?_)
       refine Kd.R_append_rows_step (Kd.int .i64) (w0 := W) W.heap.size (by rfl) (.tmp 37) (.tmp 39) 39 2 (.int .i64 0) 8 rfl Try.underlying39 info2 rfl (by decide) (by omega) vt ([] ++ T1) ([a1]) _ _ _ (fun _ => True) (fun _ => False) rfl rfl ?aO ?aR (fun _ _ h => h) (fun _ h => h.elim) ?aF ?aB ?aS ?aL ?_; (case aR => exact (Kd.R_reads' HL.out).2.2); (case aB => exact HS.out); (case aF => exact (fun _ _ => trivial)); (case aO => exact HT.out); (case aS => exact (below_size HS.out)); (case aL => simp only [List.length_append, List.length_nil, List.length_singleton]; omega)
       intro vu wa ho hb hg hat
       have HU := Aside0.mk ho
       clear HS
       have HS := Aside0.mk hb
       clear hb ho hg hat
       refine hK.out _ _ HS.out (fun hHeld => ?_)
       clear hK K
       refine norm_ (a' := ?_) ?_ ?_
       rotate_left
       ·
        show Act.put _ (some 40) _ = _
        simp only [Act.put, sT, s0, sS, i64_w, i32_w]
        rfl
       refine one_ (i := 11) (N := some 44) #[true, true, true, true, true, true, true, true, true, true, true, true, false] rfl rfl (one_of HT_.out (by kernel_rfl)) (by decide) (fun K hK => ?_)
       refine Kd.R_append_rows_step (Kd.int .i64) (w0 := W) W.heap.size (by rfl) (.tmp 40) (.tmp 43) 39 2 (.int .i64 0) 8 rfl Try.underlying39 info2 rfl (by decide) (by omega) vu ([] ++ T1 ++ [a1]) (D1) _ _ _ (fun _ => True) (fun _ => False) rfl rfl ?aO ?aR (fun _ _ h => h) (fun _ h => h.elim) ?aF ?aB ?aS ?aL ?_; (case aR => exact (Kd.C_below HCD.out HS.out)); (case aB => exact HS.out); (case aF => exact (fun _ _ => trivial)); (case aO => exact HU.out); (case aS => exact (below_size HS.out)); (case aL => simp only [List.length_append, List.length_nil, List.length_singleton]; omega)
       intro vz wa ho hb hg hat
       have HZ := Aside0.mk ho
       clear HS
       have HS := Aside0.mk hb
       clear hb ho hg hat
       refine hK.out _ _ HS.out (fun hHeld => ?_)
       clear hK K
       refine norm_ (a' := ?_) ?_ ?_
       rotate_left
       ·
        show Act.put _ (some 44) _ = _
        simp only [Act.put, sT, s0, sS, i64_w, i32_w]
        rfl
       refine pure_ (i := 12) (N := some 4) (v := ?_) (a' := ?_) #[true, true, true, true, true, true, true, true, true, true, true, true, true] rfl rfl (any_of HT_.out (by kernel_rfl)) (fun _ _ _ h => h) (Or.inl ⟨by rfl, ?_⟩) ?_ ?_
       rotate_left
       ·
        intro w'
        go_simp
        with_reducible rfl
       rotate_left
       ·
        simp only [Act.put, sT, s0, sS, i64_w, i32_w]
        rfl
       refine done_ (done_of HT_.out (by kernel_rfl)) ?_
       go_wp2
       go_ret
       exact ⟨vz, by first | rfl | (simp; done) | (simp [*]; done), ins_to (by have z_ := HZ.out; rw [show [] ++ T1 ++ [a1] ++ D1 = T1 ++ a1 :: D1 by simp] at z_; exact z_) HKW.out.1 HBW.out, below_then HBW.out HBW.out.size HS.out, Kept.below HKW.out HS.out⟩
      ·
       skip
       refine Kd.R_lit_step (Kd.int .i64) _ 2 ?hg (N := 39) ?hd (xs := ([a1] : List Int)) (inner := [.int .i64 (a1)]) (ok := fun _ => True) (okp := fun _ => True) ?hr ?hp (fun _ hk => hk) trivial (Below.refl _ _) (Nat.le_refl _) (by simp) ?_; (case hd => rfl); (case hg => rfl); (case hr => first | (go_simp; done) | (go_simp; rfl)); (case hp => exact (Reps.one (show Kd.M (Kd.int .i64) _ _ _ (a1) [.int .i64 (a1)] from rfl) (Reps.none _ _)))
       intro vl wl ho hb hg_ hnew_
       obtain ⟨Al, cl, el⟩ := Kd.R_slice ho
       subst el
       have NE := Aside0.mk (ne_earlier HE.out hnew_)
       have n0_ := Aside0.mk (Kd.R_below HE.out hb)
       clear HE
       have HE := n0_
       clear n0_
       have HL := Aside0.mk (Kd.R_lower ho (below_size HS.out))
       have n1_ := Aside0.mk (below_step HS.out hb)
       clear HS
       have HS := n1_
       clear n1_ hb ho hg_ hnew_
       refine hK.out _ _ HS.out (fun hHeld => ?_)
       clear hK K
       refine norm_ (a' := ?_) ?_ ?_
       rotate_left
       ·
        show Act.put _ (some 39) _ = _
        simp only [Act.put, sT, s0, sS, i64_w, i32_w]
        rfl
       refine one_ (i := 4) (N := some 37) #[true, true, true, true, true, true, true, false, true, true, true, false, false] rfl rfl (one_of HT_.out (by kernel_rfl)) (by decide) (fun K hK => ?_)
       refine Kd.R_append_rows_step (Kd.int .i64) (w0 := W) W.heap.size (by rfl) (.tmp 33) (.tmp 36) 39 2 (.int .i64 0) 8 rfl Try.underlying39 info2 rfl (by decide) (by omega) ve ([]) (T1) _ _ _ (fun _ => True) (fun _ => False) rfl rfl ?aO ?aR (fun _ _ h => h) (fun _ h => h.elim) ?aF ?aB ?aS ?aL ?_; (case aR => exact (Kd.C_below HCT.out HS.out)); (case aB => exact HS.out); (case aF => exact (fun _ _ => trivial)); (case aO => exact HE.out); (case aS => exact (below_size HS.out)); (case aL => simp only [List.length_append, List.length_nil, List.length_singleton]; omega)
       intro vt wa ho hb hg hat
       have n2_ := Aside0.mk (Kd.R_grown2 HL.out rfl hg (fun k_ hk_ => NE.out k_ hk_))
       clear HL
       have HL := n2_
       clear n2_ NE
       have HT := Aside0.mk ho
       clear HS
       have HS := Aside0.mk hb
       clear hb ho hg hat
       refine hK.out _ _ HS.out (fun hHeld => ?_)
       clear hK K
       refine norm_ (a' := ?_) ?_ ?_
       rotate_left
       ·
        show Act.put _ (some 37) _ = _
        simp only [Act.put, sT, s0, sS, i64_w, i32_w]
        rfl
       refine one_ (i := 7) (N := some 40) #[true, true, true, true, true, true, true, true, true, true, true, false, false] rfl rfl (one_of HT_.out (by kernel_rfl)) (by decide) (fun K hK => ?_)
       refine Kd.R_append_rows_step (Kd.int .i64) (w0 := W) W.heap.size (by rfl) (.tmp 37) (.tmp 39) 39 2 (.int .i64 0) 8 rfl Try.underlying39 info2 rfl (by decide) (by omega) vt ([] ++ T1) ([a1]) _ _ _ (fun _ => True) (fun _ => False) rfl rfl ?aO ?aR (fun _ _ h => h) (fun _ h => h.elim) ?aF ?aB ?aS ?aL ?_; (case aR => exact (Kd.R_reads' HL.out).2.2); (case aB => exact HS.out); (case aF => exact (fun _ _ => trivial)); (case aO => exact HT.out); (case aS => exact (below_size HS.out)); (case aL => simp only [List.length_append, List.length_nil, List.length_singleton]; omega)
       intro vu wa ho hb hg hat
       have HU := Aside0.mk ho
       clear HS
       have HS := Aside0.mk hb
       clear hb ho hg hat
       refine hK.out _ _ HS.out (fun hHeld => ?_)
       clear hK K
       refine norm_ (a' := ?_) ?_ ?_
       rotate_left
       ·
        show Act.put _ (some 40) _ = _
        simp only [Act.put, sT, s0, sS, i64_w, i32_w]
        rfl
       refine one_ (i := 11) (N := some 44) #[true, true, true, true, true, true, true, true, true, true, true, true, false] rfl rfl (one_of HT_.out (by kernel_rfl)) (by decide) (fun K hK => ?_)
       refine Kd.R_append_rows_step (Kd.int .i64) (w0 := W) W.heap.size (by rfl) (.tmp 40) (.tmp 43) 39 2 (.int .i64 0) 8 rfl Try.underlying39 info2 rfl (by decide) (by omega) vu ([] ++ T1 ++ [a1]) (D1) _ _ _ (fun _ => True) (fun _ => False) rfl rfl ?aO ?aR (fun _ _ h => h) (fun _ h => h.elim) ?aF ?aB ?aS ?aL ?_; (case aR => exact (Kd.C_below HCD.out HS.out)); (case aB => exact HS.out); (case aF => exact (fun _ _ => trivial)); (case aO => exact HU.out); (case aS => exact (below_size HS.out)); (case aL => simp only [List.length_append, List.length_nil, List.length_singleton]; omega)
       intro vz wa ho hb hg hat
       have HZ := Aside0.mk ho
       clear HS
       have HS := Aside0.mk hb
       clear hb ho hg hat
       refine hK.out _ _ HS.out (fun hHeld => ?_)
       clear hK K
       refine norm_ (a' := ?_) ?_ ?_
       rotate_left
       ·
        show Act.put _ (some 44) _ = _
        simp only [Act.put, sT, s0, sS, i64_w, i32_w]
        rfl
       refine pure_ (i := 12) (N := some 4) (v := ?_) (a' := ?_) #[true, true, true, true, true, true, true, true, true, true, true, true, true] rfl rfl (any_of HT_.out (by kernel_rfl)) (fun _ _ _ h => h) (Or.inl ⟨by rfl, ?_⟩) ?_ ?_
       rotate_left
       ·
        intro w'
        go_simp
        with_reducible rfl
       rotate_left
       ·
        simp only [Act.put, sT, s0, sS, i64_w, i32_w]
        rfl
       refine done_ (done_of HT_.out (by kernel_rfl)) ?_
       go_wp2
       go_ret
       exact ⟨vz, by first | rfl | (simp; done) | (simp [*]; done), ins_to (by have z_ := HZ.out; rw [show [] ++ T1 ++ [a1] ++ D1 = T1 ++ a1 :: D1 by simp] at z_; exact z_) HKW.out.1 HBW.out, below_then HBW.out HBW.out.size HS.out, Kept.below HKW.out HS.out⟩
     ·
      skip
      refine Kd.R_lit_step (Kd.int .i64) _ 2 ?hg (N := 39) ?hd (xs := ([a1] : List Int)) (inner := [.int .i64 (a1)]) (ok := fun _ => True) (okp := fun _ => True) ?hr ?hp (fun _ hk => hk) trivial (Below.refl _ _) (Nat.le_refl _) (by simp) ?_; (case hd => rfl); (case hg => rfl); (case hr => first | (go_simp; done) | (go_simp; rfl)); (case hp => exact (Reps.one (show Kd.M (Kd.int .i64) _ _ _ (a1) [.int .i64 (a1)] from rfl) (Reps.none _ _)))
      intro vl wl ho hb hg_ hnew_
      obtain ⟨Al, cl, el⟩ := Kd.R_slice ho
      subst el
      have HL := Aside0.mk (Kd.R_lower ho (below_size HS.out))
      have n1_ := Aside0.mk (below_step HS.out hb)
      clear HS
      have HS := n1_
      clear n1_ hb ho hg_ hnew_
      refine hK.out _ _ HS.out (fun hHeld => ?_)
      clear hK K
      refine norm_ (a' := ?_) ?_ ?_
      rotate_left
      ·
       show Act.put _ (some 39) _ = _
       simp only [Act.put, sT, s0, sS, i64_w, i32_w]
       rfl
      refine one_ (i := 0) (N := some 33) #[true, true, true, true, false, true, true, false, true, true, true, false, false] rfl rfl (one_of HT_.out (by kernel_rfl)) (by decide) (fun K hK => ?_)
      refine Kd.R_lit_step (Kd.int .i64) _ 2 ?hg (N := 33) ?hd (xs := ([] : List Int)) (inner := []) (ok := fun _ => True) (okp := fun _ => True) ?hr ?hp (fun _ hk => hk) trivial (Below.refl _ _) (Nat.le_refl _) (by simp) ?_; (case hd => rfl); (case hg => rfl); (case hr => first | (go_simp; done) | (go_simp; rfl)); (case hp => exact (Reps.none _ _))
      intro ve we ho hb hg_ hnew_
      have NE := Aside0.mk (ne_later HL.out hnew_)
      have n0_ := Aside0.mk (Kd.R_below HL.out hb)
      clear HL
      have HL := n0_
      clear n0_
      have HE := Aside0.mk (Kd.R_lower ho (below_size HS.out))
      have n1_ := Aside0.mk (below_step HS.out hb)
      clear HS
      have HS := n1_
      clear n1_ hb ho hg_ hnew_
      refine hK.out _ _ HS.out (fun hHeld => ?_)
      clear hK K
      refine norm_ (a' := ?_) ?_ ?_
      rotate_left
      ·
       show Act.put _ (some 33) _ = _
       simp only [Act.put, sT, s0, sS, i64_w, i32_w]
       rfl
      refine one_ (i := 4) (N := some 37) #[true, true, true, true, true, true, true, false, true, true, true, false, false] rfl rfl (one_of HT_.out (by kernel_rfl)) (by decide) (fun K hK => ?_)
      refine Kd.R_append_rows_step (Kd.int .i64) (w0 := W) W.heap.size (by rfl) (.tmp 33) (.tmp 36) 39 2 (.int .i64 0) 8 rfl Try.underlying39 info2 rfl (by decide) (by omega) ve ([]) (T1) _ _ _ (fun _ => True) (fun _ => False) rfl rfl ?aO ?aR (fun _ _ h => h) (fun _ h => h.elim) ?aF ?aB ?aS ?aL ?_; (case aR => exact (Kd.C_below HCT.out HS.out)); (case aB => exact HS.out); (case aF => exact (fun _ _ => trivial)); (case aO => exact HE.out); (case aS => exact (below_size HS.out)); (case aL => simp only [List.length_append, List.length_nil, List.length_singleton]; omega)
      intro vt wa ho hb hg hat
      have n2_ := Aside0.mk (Kd.R_grown2 HL.out rfl hg (fun k_ hk_ => NE.out k_ hk_))
      clear HL
      have HL := n2_
      clear n2_ NE
      have HT := Aside0.mk ho
      clear HS
      have HS := Aside0.mk hb
      clear hb ho hg hat
      refine hK.out _ _ HS.out (fun hHeld => ?_)
      clear hK K
      refine norm_ (a' := ?_) ?_ ?_
      rotate_left
      ·
       show Act.put _ (some 37) _ = _
       simp only [Act.put, sT, s0, sS, i64_w, i32_w]
       rfl
      refine one_ (i := 7) (N := some 40) #[true, true, true, true, true, true, true, true, true, true, true, false, false] rfl rfl (one_of HT_.out (by kernel_rfl)) (by decide) (fun K hK => ?_)
      refine Kd.R_append_rows_step (Kd.int .i64) (w0 := W) W.heap.size (by rfl) (.tmp 37) (.tmp 39) 39 2 (.int .i64 0) 8 rfl Try.underlying39 info2 rfl (by decide) (by omega) vt ([] ++ T1) ([a1]) _ _ _ (fun _ => True) (fun _ => False) rfl rfl ?aO ?aR (fun _ _ h => h) (fun _ h => h.elim) ?aF ?aB ?aS ?aL ?_; (case aR => exact (Kd.R_reads' HL.out).2.2); (case aB => exact HS.out); (case aF => exact (fun _ _ => trivial)); (case aO => exact HT.out); (case aS => exact (below_size HS.out)); (case aL => simp only [List.length_append, List.length_nil, List.length_singleton]; omega)
      intro vu wa ho hb hg hat
      have HU := Aside0.mk ho
      clear HS
      have HS := Aside0.mk hb
      clear hb ho hg hat
      refine hK.out _ _ HS.out (fun hHeld => ?_)
      clear hK K
      refine norm_ (a' := ?_) ?_ ?_
      rotate_left
      ·
       show Act.put _ (some 40) _ = _
       simp only [Act.put, sT, s0, sS, i64_w, i32_w]
       rfl
      refine one_ (i := 11) (N := some 44) #[true, true, true, true, true, true, true, true, true, true, true, true, false] rfl rfl (one_of HT_.out (by kernel_rfl)) (by decide) (fun K hK => ?_)
      refine Kd.R_append_rows_step (Kd.int .i64) (w0 := W) W.heap.size (by rfl) (.tmp 40) (.tmp 43) 39 2 (.int .i64 0) 8 rfl Try.underlying39 info2 rfl (by decide) (by omega) vu ([] ++ T1 ++ [a1]) (D1) _ _ _ (fun _ => True) (fun _ => False) rfl rfl ?aO ?aR (fun _ _ h => h) (fun _ h => h.elim) ?aF ?aB ?aS ?aL ?_; (case aR => exact (Kd.C_below HCD.out HS.out)); (case aB => exact HS.out); (case aF => exact (fun _ _ => trivial)); (case aO => exact HU.out); (case aS => exact (below_size HS.out)); (case aL => simp only [List.length_append, List.length_nil, List.length_singleton]; omega)
      intro vz wa ho hb hg hat
      have HZ := Aside0.mk ho
      clear HS
      have HS := Aside0.mk hb
      clear hb ho hg hat
      refine hK.out _ _ HS.out (fun hHeld => ?_)
      clear hK K
      refine norm_ (a' := ?_) ?_ ?_
      rotate_left
      ·
       show Act.put _ (some 44) _ = _
       simp only [Act.put, sT, s0, sS, i64_w, i32_w]
       rfl
      refine pure_ (i := 12) (N := some 4) (v := ?_) (a' := ?_) #[true, true, true, true, true, true, true, true, true, true, true, true, true] rfl rfl (any_of HT_.out (by kernel_rfl)) (fun _ _ _ h => h) (Or.inl ⟨by rfl, ?_⟩) ?_ ?_
      rotate_left
      ·
       intro w'
       go_simp
       with_reducible rfl
      rotate_left
      ·
       simp only [Act.put, sT, s0, sS, i64_w, i32_w]
       rfl
      refine done_ (done_of HT_.out (by kernel_rfl)) ?_
      go_wp2
      go_ret
      exact ⟨vz, by first | rfl | (simp; done) | (simp [*]; done), ins_to (by have z_ := HZ.out; rw [show [] ++ T1 ++ [a1] ++ D1 = T1 ++ a1 :: D1 by simp] at z_; exact z_) HKW.out.1 HBW.out, below_then HBW.out HBW.out.size HS.out, Kept.below HKW.out HS.out⟩
    ·
     rw [if_neg c12] at H
     exact absurd H (by simp)

end Go.Proofs.Ytidibjmckgbpbaa.QFnProfiles
