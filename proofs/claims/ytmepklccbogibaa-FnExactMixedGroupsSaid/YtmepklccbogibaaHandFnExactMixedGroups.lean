/- Own contracts: a slice that a law lays out keeps its whole capacity known; what is compared behind its length is known too. No condition beyond those named. -/
import Derived.Test.YtmepklccbogibaaQFnExactMixedGroupsx
namespace Go.Proofs.Ytmepklccbogibaa.HandFnExactMixedGroups
open Go.RowKit Go.Proofs.YtmepklccbogibaaW.PrintWords Go.Proofs.YtmepklccbogibaaW.PrintLast Go.Proofs.YtmepklccbogibaaW.PrintMore Go.Proofs.Ytmepklccbogibaa.QFnExactMixedGroups
attribute [local go_sem] max2_int min2_int max_two min_two max_three min_three max_four min_four
set_option linter.unusedVariables false
set_option linter.unusedSimpArgs false

theorem cut_cap {P : Program} (t e : TypeId) (kh : IntKind) {i : TypeInfo} (ht : P.underlying t = some (.slice e)) (hi : P.info? e = some i) (A : Option Addr) (n c : Nat) (j : Int) (h0 : 0 ≤ j) (hm : j ≤ c) :
    ∀ W : World, (Instr.slice t (.slice A n c) none (some (.int kh j)) none).run P W = .ok (.slice A j.toNat c) W := by
  intro W
  have hel : P.elem t = e := by simp [Program.elem, ht]
  have hu : P.underlying t = some (.slice (P.elem t)) := by rw [hel]; exact ht
  have ha : (A.map fun x => x.add 0) = A := by cases A <;> simp [Addr.add]
  rw [run_slice_h W t A n c hu kh j h0 (by omega), hel]
  simp [sizeOf, typeInfo, hi, sliced, Result.andThen, ha]

/-! ### laws_toArticleS, whole: function 30 -/
mutual
def laws_toArticleSF.j0 : Nat → List (S23) → Bool → Option ((List (S26)))
 | 0, _, _ => none
 | k + 1, x0, x13 => if x13 = true then (none) else ((laws_roomBehind.f (x0.length : Int)).bind fun t143 => (if 0 ≤ (wrap64 ((x0.length : Int) + t143)) then (if (wrap64 ((x0.length : Int) + t143) : Int).toNat ≤ 3518437208883 then (laws_toArticleSF.l0 k x0 (List.replicate (wrap64 ((x0.length : Int) + t143) : Int).toNat z26) 0) else (none)) else (none)))
def laws_toArticleSF.l0 : Nat → List (S23) → List (S26) → Int → Option ((List (S26)))
 | 0, _, _, _ => none
 | k + 1, x0, x5, x6 => if x6 < (x0.length : Int) then (if 0 ≤ x6 then ((laws_toArticle.f ((rd_T23 x0 x6).f0) ((rd_T23 x0 x6).f1) ((rd_T23 x0 x6).f2) ((rd_T23 x0 x6).f3) ((rd_T23 x0 x6).f4) ((rd_T23 x0 x6).f5) ((rd_T23 x0 x6).f6) ((rd_T23 x0 x6).f7) ((rd_T23 x0 x6).f8)).bind fun bt148 => (if x6 < (x5.length : Int) then (laws_toArticleSF.l0 k x0 (x5.set (x6 : Int).toNat (⟨bt148.1, bt148.2.1, bt148.2.2.1, bt148.2.2.2.1, bt148.2.2.2.2.1, bt148.2.2.2.2.2.1, bt148.2.2.2.2.2.2.1, bt148.2.2.2.2.2.2.2.1, bt148.2.2.2.2.2.2.2.2⟩ : S26)) (wrap64 (x6 + 1))) else (none))) else (none)) else (laws_toArticleSF.l1 k x0 x5 (x0.length : Int))
def laws_toArticleSF.l1 : Nat → List (S23) → List (S26) → Int → Option ((List (S26)))
 | 0, _, _, _ => none
 | k + 1, x0, x5, x7 => if x7 < (x5.length : Int) then ((laws_fillerArticle.f).bind fun bt158 => (if 0 ≤ x7 then (laws_toArticleSF.l1 k x0 (x5.set (x7 : Int).toNat (⟨bt158.1, bt158.2.1, bt158.2.2.1, bt158.2.2.2.1, bt158.2.2.2.2.1, bt158.2.2.2.2.2.1, bt158.2.2.2.2.2.2.1, bt158.2.2.2.2.2.2.2.1, bt158.2.2.2.2.2.2.2.2⟩ : S26)) (wrap64 (x7 + 1))) else (none))) else (if 0 ≤ (x0.length : Int) then (if (x0.length : Int) ≤ (x5.length : Int) then (some x5) else (none)) else (none))
end
def laws_toArticleSF.f (k : Nat) (l0 : List (S23)) (a1 : Bool) : Option ((List (S26))) := if a1 = true then (laws_toArticleSF.j0 k l0 ((l0.length : Int) == 0)) else (laws_toArticleSF.j0 k l0 false)
theorem laws_toArticleSF.mono_l : ∀ k, (∀ y0 y1, LeO (laws_toArticleSF.j0 k y0 y1) (laws_toArticleSF.j0 (k + 1) y0 y1)) ∧ (∀ y0 y1 y2, LeO (laws_toArticleSF.l0 k y0 y1 y2) (laws_toArticleSF.l0 (k + 1) y0 y1 y2)) ∧ (∀ y0 y1 y2, LeO (laws_toArticleSF.l1 k y0 y1 y2) (laws_toArticleSF.l1 (k + 1) y0 y1 y2))
 | 0 => ⟨fun _ _ r h => by simp [laws_toArticleSF.j0] at h, fun _ _ _ r h => by simp [laws_toArticleSF.l0] at h, fun _ _ _ r h => by simp [laws_toArticleSF.l1] at h⟩
 | k + 1 => by
  obtain ⟨ih0, ih1, ih2⟩ := laws_toArticleSF.mono_l k
  refine ⟨?_, ?_, ?_⟩
  ·
   intro y0 y1
   unfold laws_toArticleSF.j0
   repeat' first
   | (with_reducible exact ih0 _ _)
   | (with_reducible exact ih1 _ _ _)
   | (with_reducible exact ih2 _ _ _)
   | (with_reducible exact LeO.refl _)
   | (with_reducible exact LeO.none _)
   | (with_reducible refine LeO.ite ?_ ?_)
   | (with_reducible refine LeO.bind ?_ (fun _ => ?_))
   | exact ih0 _ _
   | exact ih1 _ _ _
   | exact ih2 _ _ _
   | exact LeO.none _
   | refine LeO.ite ?_ ?_
   | refine LeO.bind ?_ (fun _ => ?_)
  ·
   intro y0 y1 y2
   unfold laws_toArticleSF.l0
   repeat' first
   | (with_reducible exact ih0 _ _)
   | (with_reducible exact ih1 _ _ _)
   | (with_reducible exact ih2 _ _ _)
   | (with_reducible exact LeO.refl _)
   | (with_reducible exact LeO.none _)
   | (with_reducible refine LeO.ite ?_ ?_)
   | (with_reducible refine LeO.bind ?_ (fun _ => ?_))
   | exact ih0 _ _
   | exact ih1 _ _ _
   | exact ih2 _ _ _
   | exact LeO.none _
   | refine LeO.ite ?_ ?_
   | refine LeO.bind ?_ (fun _ => ?_)
  ·
   intro y0 y1 y2
   unfold laws_toArticleSF.l1
   repeat' first
   | (with_reducible exact ih0 _ _)
   | (with_reducible exact ih1 _ _ _)
   | (with_reducible exact ih2 _ _ _)
   | (with_reducible exact LeO.refl _)
   | (with_reducible exact LeO.none _)
   | (with_reducible refine LeO.ite ?_ ?_)
   | (with_reducible refine LeO.bind ?_ (fun _ => ?_))
   | exact ih0 _ _
   | exact ih1 _ _ _
   | exact ih2 _ _ _
   | exact LeO.none _
   | refine LeO.ite ?_ ?_
   | refine LeO.bind ?_ (fun _ => ?_)
theorem laws_toArticleSF.mono : ∀ a0 a1 k, LeO (laws_toArticleSF.f k a0 a1) (laws_toArticleSF.f (k + 1) a0 a1) := by
 intro a0 a1 k
 obtain ⟨ih0, ih1, ih2⟩ := laws_toArticleSF.mono_l k
 unfold laws_toArticleSF.f
 repeat' first
   | (with_reducible exact ih0 _ _)
   | (with_reducible exact ih1 _ _ _)
   | (with_reducible exact ih2 _ _ _)
   | (with_reducible exact LeO.refl _)
   | (with_reducible exact LeO.none _)
   | (with_reducible refine LeO.ite ?_ ?_)
   | (with_reducible refine LeO.bind ?_ (fun _ => ?_))
   | exact ih0 _ _
   | exact ih1 _ _ _
   | exact ih2 _ _ _
   | exact LeO.none _
   | refine LeO.ite ?_ ?_
   | refine LeO.bind ?_ (fun _ => ?_)
set_option maxHeartbeats 40000000 in
set_option maxRecDepth 100000 in
theorem laws_toArticleSF.calls (k : Nat) (A0 : Option Addr) (c0 : Nat) (l0 : List (S23)) (a1 : Bool) (r : List (S26)) (w : World) (hr0 : Kd.C k23 w A0 l0.length l0) (hc0 : l0.length ≤ c0) (h : laws_toArticleSF.f k l0 a1 = some r) :
  Calls Try.prog 30 #[.slice A0 l0.length c0, .bool a1] w fun e w' => ∃ (A1 : Option Addr) (c1 : Nat), e = .returned (.slice A1 l0.length c1) ∧ Kd.R k26 26 w' w.heap.size (fun _ => True) (.slice A1 r.length c1) r ∧ l0.length ≤ r.length ∧ Below w.heap.size w w' := by
 have hu23 := Try.underlying23
 have hu26 := Try.underlying26
 have HR0 := Aside0.mk hr0
 have HC0 := Aside0.mk hc0
 clear hr0 hc0
 have HB := Aside0.mk (Below.refl w.heap.size w)
 have H : (if a1 = true then (laws_toArticleSF.j0 k l0 ((l0.length : Int) == 0)) else (laws_toArticleSF.j0 k l0 false)) = some r := h
 clear h
 have HC3 := Aside0.mk H
 clear H
 go_enter Try.func30, Try.ntmps30
 go_upto_region 1 with (fail)
 go_cut [13] (fun v13 wc => ∃ (kq : Nat) (x13_2 : Bool), v13 = .bool x13_2 ∧ Aside0 (laws_toArticleSF.j0 kq l0 x13_2 = some r) ∧ Aside0 (kq ≤ k) ∧ Aside0 (Below w.heap.size w wc))
 case first =>
  have H := HC3.out
  clear HC3
  by_cases c4 : a1 = true
  ·
   subst c4
   have H1 : (laws_toArticleSF.j0 k l0 ((l0.length : Int) == 0)) = some r := by rw [if_pos rfl] at H; exact H
   clear H
   have H := H1
   clear H1
   have H' := Aside0.mk H
   clear H
   go_wp2
   go_meet
   case rel => exact ⟨_, (((l0.length : Int) == 0)), (by first | rfl | (simp; done) | (simp [*]; done)), H', ⟨by first | omega | exact Nat.le_refl _⟩, ⟨by repeat (first | (with_reducible first | exact HB.out | apply lA | apply lN | apply lD) | exact HB.out)⟩⟩
  ·
   replace c4 := Bool.eq_false_iff.mpr c4
   subst c4
   have H1 : (laws_toArticleSF.j0 k l0 false) = some r := by rw [if_neg (show ¬ (false = true) by decide)] at H; exact H
   clear H
   have H := H1
   clear H1
   have H' := Aside0.mk H
   clear H
   go_wp2
   go_meet
   case rel => exact ⟨_, (false), (by first | rfl | (simp; done) | (simp [*]; done)), H', ⟨by first | omega | exact Nat.le_refl _⟩, ⟨by repeat (first | (with_reducible first | exact HB.out | apply lA | apply lN | apply lD) | exact HB.out)⟩⟩
 case rest =>
  clear HC3
  try clear p2
  try clear c3
  try clear c4
  obtain ⟨kq, x13_2, rfl, HA, HJ2, HB⟩ := hcut
  cases kq with
  | zero => exact absurd HA.out (by simp [laws_toArticleSF.j0])
  | succ kj2 =>
   have H := HA.out
   clear HA
   simp only [laws_toArticleSF.j0] at H
   by_cases c5 : x13_2 = true
   ·
    subst c5
    have H1 : (none : Option (List (S26))) = some r := by rw [if_pos rfl] at H; exact H
    exact absurd H1 (by simp)
   ·
    replace c5 := Bool.eq_false_iff.mpr c5
    subst c5
    have H1 : ((laws_roomBehind.f (l0.length : Int)).bind fun t143 => (if 0 ≤ (wrap64 ((l0.length : Int) + t143)) then (if (wrap64 ((l0.length : Int) + t143) : Int).toNat ≤ 3518437208883 then (laws_toArticleSF.l0 kj2 l0 (List.replicate (wrap64 ((l0.length : Int) + t143) : Int).toNat z26) 0) else (none)) else (none))) = some r := by rw [if_neg (show ¬ (false = true) by decide)] at H; exact H
    clear H
    have H := H1
    clear H1
    replace H := Option.bind_eq_some_iff.mp H
    obtain ⟨t143, A60, H⟩ := H
    replace H : (if 0 ≤ (wrap64 ((l0.length : Int) + t143)) then (if (wrap64 ((l0.length : Int) + t143) : Int).toNat ≤ 3518437208883 then (laws_toArticleSF.l0 kj2 l0 (List.replicate (wrap64 ((l0.length : Int) + t143) : Int).toNat z26) 0) else (none)) else (none)) = some r := H
    have A6 := Aside0.mk A60
    clear A60
    obtain ⟨ji7, hji7⟩ : ∃ j_ : Int, (wrap64 ((l0.length : Int) + t143)) = j_ := ⟨_, rfl⟩
    replace H : (if 0 ≤ (ji7) then (if (ji7 : Int).toNat ≤ 3518437208883 then (laws_toArticleSF.l0 kj2 l0 (List.replicate (ji7 : Int).toNat z26) 0) else (none)) else (none)) = some r := by first | (rw [hji7] at H; exact H) | (simp only [hji7] at H ⊢; exact H)
    (try rw [hji7] at A6)
    have hji7w : (IntKind.i64.wrap ((l0.length : Int) + t143)) = ji7 := (i64_w _).trans hji7
    by_cases c8 : 0 ≤ (ji7)
    ·
     rw [if_pos c8] at H
     have c8b0 := eq_true c8
     have c8b1 : decide (0 ≤ (ji7)) = true := decide_eq_true c8
     clear c8
     by_cases c9 : (ji7 : Int).toNat ≤ 3518437208883
     ·
      rw [if_pos c9] at H
      have c9b0 := eq_true c9
      have c9b1 : decide ((ji7 : Int).toNat ≤ 3518437208883) = true := decide_eq_true c9
      clear c9
      obtain ⟨y144, hy144⟩ : ∃ y_ : List (S26), y_ = (List.replicate (ji7 : Int).toNat z26) := ⟨_, rfl⟩
      replace H : (laws_toArticleSF.l0 kj2 l0 y144 0) = some r := by first | (rw [hy144]; with_reducible exact H) | (have H2_ := (Option.bind_some _ _).symm.trans H; rw [hy144]; with_reducible exact H2_) | (have H2_ := (Option.bind_some _ _).symm.trans H; with_reducible exact H2_) | with_reducible exact H | (rw [hy144]; exact H) | exact H
      have Ny144 := Aside0.mk hy144
      clear hy144
      have H' := Aside0.mk H
      clear H
      go_wp2_with (first | ((with_reducible refine gate_callee (f := 78) rfl ?_); refine goesL_ (some 18) rfl rfl Try.func78 (by kernel_rfl) rfl #[.int .i64 (l0.length : Int)] rfl (by (try simp only [List.map_toArray, List.map_cons, List.map_nil]); first | done | rfl | (go_simp; done) | simp) ?_; (with_reducible refine (laws_roomBehind.calls (l0.length : Int) t143 _ A6.out).mono ?_); rintro e w' ⟨rfl, ⟨nd, rfl⟩⟩; refine ⟨_, rfl, ?_⟩) | ((with_reducible refine gate_dst (N := 20) rfl ?_); (try (refine gate_guard (by rfl) ?_; dsimp only)); refine Kd.R_make k26 _ 26 rfl (N := 20) rfl 44 _ _ rfl ji7 rfl rfl Try.underlying44 (.agg #[(.string ⟨#[]⟩), (.int .i64 0), (.int .i64 0), (.int .i64 0), (.int .i64 0), (.int .i64 0), (.int .i64 0), (.int .i64 0), (.int .i64 0)]) 80 info26 rfl (by decide) (by omega) z26 (ok := fun _ => True) (okp := fun _ => True) (k26_mkM _ _ _ z26 ) (fun _ hk => hk) trivial (of_decide_eq_true (by with_reducible assumption)) (Nat.le_trans (Nat.mul_le_mul_right _ (of_decide_eq_true (by with_reducible assumption) : ji7.toNat ≤ 3518437208883)) (by omega)) (Below.refl _ _) (Nat.le_refl _) ?_; intro v145 w10 ho11 hb hg_ hnew_; clear hg_ hnew_; (first | rw [← Ny144.out] at ho11 | (simp only [Int.reduceToNat] at ho11; rw [← Ny144.out] at ho11)); have n0_ := Aside0.mk (Kd.R_lower ho11 (below_size (by repeat (first | (with_reducible first | exact HB.out | apply lA | apply lN | apply lD) | exact HB.out)))); have n1_ := Aside0.mk (below_step (by repeat (first | (with_reducible first | exact HB.out | apply lA | apply lN | apply lD) | exact HB.out)) hb); clear HB; have HO146 := n0_; have HB := n1_; clear n0_ n1_; clear hb ho11))
      go_loopg [6] kj2 (fun kq v6 w' => ∃ (x5_2 : List (S26)) (x6_2 : Int), v6 = .int .i64 x6_2 ∧ Aside0 (laws_toArticleSF.l0 kq l0 x5_2 x6_2 = some r) ∧ Aside0 (kq ≤ kj2) ∧ Aside0 (Kd.R k26 26 w' w.heap.size (fun _ => True) v145 x5_2) ∧ Aside0 (Below w.heap.size w w'))
      case atStart => exact ⟨(y144), (0), (by first | rfl | (simp; done) | (simp [*]; done)), H', ⟨Nat.le_refl _⟩, ⟨by (with_reducible repeat (first | apply rA | apply rN | apply rD)); exact HO146.out⟩, ⟨by repeat (first | (with_reducible first | exact HB.out | apply lA | apply lN | apply lD) | exact HB.out)⟩⟩
      case round =>
       clear H'
       try clear p2
       try clear c3
       try clear c4
       try clear c5
       try clear p6
       try clear c7
       try clear c8
       try clear c8b0
       try clear c8b1
       try clear c9
       try clear c9b0
       try clear c9b1
       try clear p2
       obtain ⟨x5_2, x6_2, rfl, HA, HK2, HO_5, HB⟩ := hrel
       cases gk with
       | zero => exact absurd HA.out (by simp [laws_toArticleSF.l0])
       | succ k2 =>
        have H := HA.out
        clear HA
        simp only [laws_toArticleSF.l0] at H
        by_cases c12 : x6_2 < (l0.length : Int)
        ·
         rw [if_pos c12] at H
         have c12b0 : decide (x6_2 < (l0.length : Int)) = true := decide_eq_true c12
         clear c12
         by_cases c13 : 0 ≤ x6_2
         ·
          rw [if_pos c13] at H
          have c13b0 : decide (0 ≤ x6_2) = true := decide_eq_true c13
          clear c13
          replace H := Option.bind_eq_some_iff.mp H
          obtain ⟨⟨t148, t149, t150, t151, t152, t153, t154, t155, t156⟩, A140, H⟩ := H
          replace H : (if x6_2 < (x5_2.length : Int) then (laws_toArticleSF.l0 k2 l0 (x5_2.set (x6_2 : Int).toNat (⟨t148, t149, t150, t151, t152, t153, t154, t155, t156⟩ : S26)) (wrap64 (x6_2 + 1))) else (none)) = some r := H
          have A14 := Aside0.mk A140
          clear A140
          by_cases c15 : x6_2 < (x5_2.length : Int)
          ·
           rw [if_pos c15] at H
           have c15b0 : decide (x6_2 < (x5_2.length : Int)) = true := decide_eq_true c15
           clear c15
           obtain ⟨y157, hy157⟩ : ∃ y_ : List (S26), y_ = (x5_2.set (x6_2 : Int).toNat (⟨t148, t149, t150, t151, t152, t153, t154, t155, t156⟩ : S26)) := ⟨_, rfl⟩
           replace H : (laws_toArticleSF.l0 k2 l0 y157 (wrap64 (x6_2 + 1))) = some r := by first | (rw [hy157]; with_reducible exact H) | (have H2_ := (Option.bind_some _ _).symm.trans H; rw [hy157]; with_reducible exact H2_) | (have H2_ := (Option.bind_some _ _).symm.trans H; with_reducible exact H2_) | with_reducible exact H | (rw [hy157]; exact H) | exact H
           have Ny157 := Aside0.mk hy157
           clear hy157
           have H' := Aside0.mk H
           clear H
           have p147 : 0 ≤ (x6_2 : Int) := of_decide_eq_true (by with_reducible assumption)
           have q147 : x6_2 < (l0.length : Int) := of_decide_eq_true (by with_reducible assumption)
           obtain ⟨ad147, e147, hx147_0, hx147_1, hx147_2, hx147_3, hx147_4, hx147_5, hx147_6, hx147_7, hx147_8⟩ := at_T23 HR0.out x6_2 p147 q147
           cases e147
           replace hx147_0 := cB HB.out hx147_0
           replace hx147_1 := cB HB.out hx147_1
           replace hx147_2 := cB HB.out hx147_2
           replace hx147_3 := cB HB.out hx147_3
           replace hx147_4 := cB HB.out hx147_4
           replace hx147_5 := cB HB.out hx147_5
           replace hx147_6 := cB HB.out hx147_6
           replace hx147_7 := cB HB.out hx147_7
           replace hx147_8 := cB HB.out hx147_8
           replace p147 := eq_true p147
           replace q147 := eq_true q147
           go_wp2_with (first | ((with_reducible refine gate_callee (f := 17) rfl ?_); refine goesL_ (some 33) rfl rfl Try.func17 (by kernel_rfl) rfl #[.agg #[.string ((rd_T23 l0 x6_2).f0), .int .i64 ((rd_T23 l0 x6_2).f1), .int .i64 ((rd_T23 l0 x6_2).f2), .int .i64 ((rd_T23 l0 x6_2).f3), .int .i64 ((rd_T23 l0 x6_2).f4), .int .i64 ((rd_T23 l0 x6_2).f5), .int .i64 ((rd_T23 l0 x6_2).f6), .int .i64 ((rd_T23 l0 x6_2).f7), .int .i64 ((rd_T23 l0 x6_2).f8)]] rfl (by (try simp only [List.map_toArray, List.map_cons, List.map_nil]); first | done | rfl | (go_simp; done) | simp) ?_; (with_reducible refine (laws_toArticle.calls ((rd_T23 l0 x6_2).f0) ((rd_T23 l0 x6_2).f1) ((rd_T23 l0 x6_2).f2) ((rd_T23 l0 x6_2).f3) ((rd_T23 l0 x6_2).f4) ((rd_T23 l0 x6_2).f5) ((rd_T23 l0 x6_2).f6) ((rd_T23 l0 x6_2).f7) ((rd_T23 l0 x6_2).f8) t148 t149 t150 t151 t152 t153 t154 t155 t156 _ A14.out).mono ?_); rintro e w17 ⟨rfl, hb⟩; refine ⟨_, rfl, ?_⟩; have n0_ := Aside0.mk (Kd.R_below (by (with_reducible repeat (first | apply rA | apply rN | apply rD)); exact HO_5.out) hb); have n1_ := Aside0.mk (below_step (by repeat (first | (with_reducible first | exact HB.out | apply lA | apply lN | apply lD) | exact HB.out)) hb); clear HO_5; clear HB; have HO_5 := n0_; have HB := n1_; clear n0_ n1_; (try clear hb); (try clear hb2); (try clear hk); (try clear hi); have p16 : 0 ≤ (x6_2 : Int) := of_decide_eq_true (by with_reducible assumption); have q16 : (x6_2 : Int) < ((x5_2.length : Int) : Int) := of_decide_eq_true (by with_reducible assumption); obtain ⟨go16, co16, eo16, gb16, gl16, cl16, HG16⟩ := Kd.R_form HO_5.out (by omega); (first | cases eo16 | (injection eo16 with ea_ en_ ec_; (first | subst ea_ | (injection ea_ with ea_; subst ea_)); subst ec_; clear en_)); have GB16 := Aside0.mk gb16; have GG16 := Aside0.mk HG16; clear gb16 gl16 HG16; obtain ⟨ce16, hcl16, hM16, hcc16, hfr16⟩ := Kd.R_elem HO_5.out z26 (x6_2 : Int) p16 q16; obtain rfl := k26_openM hM16; have hx16_0 : w17.cell? ⟨go16, (x6_2 : Int).toNat * 9, none⟩ = some (.string ((rd_T26 x5_2 x6_2).f0)) := hcc16 0 _ rfl; have hx16_1 : w17.cell? ⟨go16, (x6_2 : Int).toNat * 9 + 1, none⟩ = some (.int .i64 ((rd_T26 x5_2 x6_2).f1)) := hcc16 1 _ rfl; have hx16_2 : w17.cell? ⟨go16, (x6_2 : Int).toNat * 9 + 2, none⟩ = some (.int .i64 ((rd_T26 x5_2 x6_2).f2)) := hcc16 2 _ rfl; have hx16_3 : w17.cell? ⟨go16, (x6_2 : Int).toNat * 9 + 3, none⟩ = some (.int .i64 ((rd_T26 x5_2 x6_2).f3)) := hcc16 3 _ rfl; have hx16_4 : w17.cell? ⟨go16, (x6_2 : Int).toNat * 9 + 4, none⟩ = some (.int .i64 ((rd_T26 x5_2 x6_2).f4)) := hcc16 4 _ rfl; have hx16_5 : w17.cell? ⟨go16, (x6_2 : Int).toNat * 9 + 5, none⟩ = some (.int .i64 ((rd_T26 x5_2 x6_2).f5)) := hcc16 5 _ rfl; have hx16_6 : w17.cell? ⟨go16, (x6_2 : Int).toNat * 9 + 6, none⟩ = some (.int .i64 ((rd_T26 x5_2 x6_2).f6)) := hcc16 6 _ rfl; have hx16_7 : w17.cell? ⟨go16, (x6_2 : Int).toNat * 9 + 7, none⟩ = some (.int .i64 ((rd_T26 x5_2 x6_2).f7)) := hcc16 7 _ rfl; have hx16_8 : w17.cell? ⟨go16, (x6_2 : Int).toNat * 9 + 8, none⟩ = some (.int .i64 ((rd_T26 x5_2 x6_2).f8)) := hcc16 8 _ rfl; have hf16_0 : w17.frozen? ⟨go16, (x6_2 : Int).toNat * 9, none⟩ = false := hfr16 0; have hf16_1 : w17.frozen? ⟨go16, (x6_2 : Int).toNat * 9 + 1, none⟩ = false := hfr16 1; have hf16_2 : w17.frozen? ⟨go16, (x6_2 : Int).toNat * 9 + 2, none⟩ = false := hfr16 2; have hf16_3 : w17.frozen? ⟨go16, (x6_2 : Int).toNat * 9 + 3, none⟩ = false := hfr16 3; have hf16_4 : w17.frozen? ⟨go16, (x6_2 : Int).toNat * 9 + 4, none⟩ = false := hfr16 4; have hf16_5 : w17.frozen? ⟨go16, (x6_2 : Int).toNat * 9 + 5, none⟩ = false := hfr16 5; have hf16_6 : w17.frozen? ⟨go16, (x6_2 : Int).toNat * 9 + 6, none⟩ = false := hfr16 6; have hf16_7 : w17.frozen? ⟨go16, (x6_2 : Int).toNat * 9 + 7, none⟩ = false := hfr16 7; have hf16_8 : w17.frozen? ⟨go16, (x6_2 : Int).toNat * 9 + 8, none⟩ = false := hfr16 8; clear hcl16 hcc16 hfr16 hM16; replace p16 := eq_true p16; replace q16 := eq_true q16; have HX18 := Aside0.mk (show Kd.R k26 26 w17 w.heap.size (fun _ => True) (.slice (some ⟨go16, 0, none⟩) x5_2.length co16) x5_2 from (by (with_reducible repeat (first | apply rA | apply rN | apply rD)); exact HO_5.out)); obtain ⟨ce18, hcl18, hM18, hcc18, hfr18⟩ := Kd.R_elem HX18.out z26 (x6_2 : Int) (of_decide_eq_true (by with_reducible assumption)) (by have h_ : (x6_2 : Int) < ((x5_2.length : Int) : Int) := of_decide_eq_true (by with_reducible assumption); first | exact h_ | (have e_ := (Kd.R_reads' HO_5.out).1; omega) | simpa using h_); obtain rfl := k26_openM hM18; have HP18 := Kd.R_seg HX18.out (x6_2 : Int) (of_decide_eq_true (by with_reducible assumption)) (by have h_ : (x6_2 : Int) < ((x5_2.length : Int) : Int) := of_decide_eq_true (by with_reducible assumption); first | exact h_ | (have e_ := (Kd.R_reads' HO_5.out).1; omega) | simpa using h_) (seg := [.string t148, .int .i64 t149, .int .i64 t150, .int .i64 t151, .int .i64 t152, .int .i64 t153, .int .i64 t154, .int .i64 t155, .int .i64 t156]) (j := 0) hcl18 hcc18 (show 9 ≤ 9 from by decide) (x' := (⟨t148, t149, t150, t151, t152, t153, t154, t155, t156⟩ : S26)) (k26_mkM _ _ _ (⟨t148, t149, t150, t151, t152, t153, t154, t155, t156⟩ : S26) ) (fun _ hk => hk); have hx18_0 := hcc18 0 _ rfl; (try simp only [show (k26).sz = 9 from rfl, Nat.mul_one, Nat.add_zero] at hx18_0); have hf18_0 := hfr18 0; (try simp only [show (k26).sz = 9 from rfl, Nat.mul_one, Nat.add_zero] at hf18_0); have hx18_1 := hcc18 1 _ rfl; (try simp only [show (k26).sz = 9 from rfl, Nat.mul_one, Nat.add_zero] at hx18_1); have hf18_1 := hfr18 1; (try simp only [show (k26).sz = 9 from rfl, Nat.mul_one, Nat.add_zero] at hf18_1); have hx18_2 := hcc18 2 _ rfl; (try simp only [show (k26).sz = 9 from rfl, Nat.mul_one, Nat.add_zero] at hx18_2); have hf18_2 := hfr18 2; (try simp only [show (k26).sz = 9 from rfl, Nat.mul_one, Nat.add_zero] at hf18_2); have hx18_3 := hcc18 3 _ rfl; (try simp only [show (k26).sz = 9 from rfl, Nat.mul_one, Nat.add_zero] at hx18_3); have hf18_3 := hfr18 3; (try simp only [show (k26).sz = 9 from rfl, Nat.mul_one, Nat.add_zero] at hf18_3); have hx18_4 := hcc18 4 _ rfl; (try simp only [show (k26).sz = 9 from rfl, Nat.mul_one, Nat.add_zero] at hx18_4); have hf18_4 := hfr18 4; (try simp only [show (k26).sz = 9 from rfl, Nat.mul_one, Nat.add_zero] at hf18_4); have hx18_5 := hcc18 5 _ rfl; (try simp only [show (k26).sz = 9 from rfl, Nat.mul_one, Nat.add_zero] at hx18_5); have hf18_5 := hfr18 5; (try simp only [show (k26).sz = 9 from rfl, Nat.mul_one, Nat.add_zero] at hf18_5); have hx18_6 := hcc18 6 _ rfl; (try simp only [show (k26).sz = 9 from rfl, Nat.mul_one, Nat.add_zero] at hx18_6); have hf18_6 := hfr18 6; (try simp only [show (k26).sz = 9 from rfl, Nat.mul_one, Nat.add_zero] at hf18_6); have hx18_7 := hcc18 7 _ rfl; (try simp only [show (k26).sz = 9 from rfl, Nat.mul_one, Nat.add_zero] at hx18_7); have hf18_7 := hfr18 7; (try simp only [show (k26).sz = 9 from rfl, Nat.mul_one, Nat.add_zero] at hf18_7); have hx18_8 := hcc18 8 _ rfl; (try simp only [show (k26).sz = 9 from rfl, Nat.mul_one, Nat.add_zero] at hx18_8); have hf18_8 := hfr18 8; (try simp only [show (k26).sz = 9 from rfl, Nat.mul_one, Nat.add_zero] at hf18_8); clear hcl18 hcc18 hfr18 hM18) | ((with_reducible refine gate_store (t := 26) (p := 34) rfl ?_); refine store_event (t := 26) (p := 34) (v := ?vo_w19) (w1 := (((((((((w17.setCell ⟨go16, (x6_2 : Int).toNat * 9, none⟩ (.string t148)).setCell ⟨go16, (x6_2 : Int).toNat * 9 + 1, none⟩ (.int .i64 t149)).setCell ⟨go16, (x6_2 : Int).toNat * 9 + 2, none⟩ (.int .i64 t150)).setCell ⟨go16, (x6_2 : Int).toNat * 9 + 3, none⟩ (.int .i64 t151)).setCell ⟨go16, (x6_2 : Int).toNat * 9 + 4, none⟩ (.int .i64 t152)).setCell ⟨go16, (x6_2 : Int).toNat * 9 + 5, none⟩ (.int .i64 t153)).setCell ⟨go16, (x6_2 : Int).toNat * 9 + 6, none⟩ (.int .i64 t154)).setCell ⟨go16, (x6_2 : Int).toNat * 9 + 7, none⟩ (.int .i64 t155)).setCell ⟨go16, (x6_2 : Int).toNat * 9 + 8, none⟩ (.int .i64 t156))) ?hg ?ho ?hn ?hr ?_; (case ho => rfl); (case hg => rfl); (case hn => rfl); (case hr => first | (go_simp; done) | (go_simp; rfl)); intro w19 hw; have hg : w17.grownBy w19 (some go16) := (by rw [hw]; exact HP18.2); have hp_ : Kd.R k26 26 w19 w.heap.size (fun _ => True) (.slice (some ⟨go16, 0, none⟩) x5_2.length co16) y157 := (by rw [hw, Ny157.out]; exact HP18.1); clear HP18; have n0_ := Aside0.mk (hp_); have n1_ := Aside0.mk ((by rw [hw]; exact below_set (below_set (below_set (below_set (below_set (below_set (below_set (below_set (below_set (HB.out) GB16.out) GB16.out) GB16.out) GB16.out) GB16.out) GB16.out) GB16.out) GB16.out) GB16.out : Below w.heap.size w w19)); clear HO_5; clear HB; have HO_5 := n0_; have HB := n1_; clear n0_ n1_; clear hg hw hp_))
           go_roundg k2
           case measure => have := HJ2.out; have := HK2.out; omega
           case rel => exact ⟨(y157), (wrap64 (x6_2 + 1)), (by first | rfl | (simp; done) | (simp [*]; done)), (by first | exact H' | (simp only [hji7]; exact H') | (have H2_ := H'; simp only [← hji7] at H2_; exact H2_)), ⟨by have := HJ2.out; have := HK2.out; omega⟩, ⟨by (with_reducible repeat (first | apply rA | apply rN | apply rD)); exact HO_5.out⟩, ⟨by repeat (first | (with_reducible first | exact HB.out | apply lA | apply lN | apply lD) | exact HB.out)⟩⟩
          ·
           rw [if_neg c15] at H
           exact absurd H (by simp)
         ·
          rw [if_neg c13] at H
          exact absurd H (by simp)
        ·
         rw [if_neg c12] at H
         have c12b0 : decide (x6_2 < (l0.length : Int)) = false := decide_eq_false c12
         clear c12
         have H' := Aside0.mk H
         clear H
         go_wp2
         go_loopg [7] k2 (fun kq v7 w' => ∃ (x5_3 : List (S26)) (x7_3 : Int), v7 = .int .i64 x7_3 ∧ Aside0 (laws_toArticleSF.l1 kq l0 x5_3 x7_3 = some r) ∧ Aside0 (kq ≤ k2) ∧ Aside0 (Kd.R k26 26 w' w.heap.size (fun _ => True) v145 x5_3) ∧ Aside0 (Below w.heap.size w w'))
         case atStart => exact ⟨(x5_2), ((l0.length : Int)), (by first | rfl | (simp; done) | (simp [*]; done)), H', ⟨Nat.le_refl _⟩, ⟨by (with_reducible repeat (first | apply rA | apply rN | apply rD)); exact HO_5.out⟩, ⟨by repeat (first | (with_reducible first | exact HB.out | apply lA | apply lN | apply lD) | exact HB.out)⟩⟩
         case round =>
          clear H'
          try clear c1
          try clear p1
          try clear q1
          try clear hx1
          try clear p2
          try clear c3
          try clear c4
          try clear c5
          try clear p6
          try clear c7
          try clear c8
          try clear c8b0
          try clear c8b1
          try clear c9
          try clear c9b0
          try clear c9b1
          try clear c12
          try clear c12b0
          try clear c13
          try clear c13b0
          try clear p14
          try clear q14
          try clear hx14
          try clear c15
          try clear c15b0
          try clear c16
          try clear p16
          try clear q16
          try clear hx16
          try clear hf16
          try clear c17
          try clear c18
          try clear hx18
          try clear hf18
          try clear hx147_0
          try clear hx147_1
          try clear hx147_2
          try clear hx147_3
          try clear hx147_4
          try clear hx147_5
          try clear hx147_6
          try clear hx147_7
          try clear hx147_8
          try clear hx16_0
          try clear hx16_1
          try clear hx16_2
          try clear hx16_3
          try clear hx16_4
          try clear hx16_5
          try clear hx16_6
          try clear hx16_7
          try clear hx16_8
          try clear hx18_0
          try clear hx18_1
          try clear hx18_2
          try clear hx18_3
          try clear hx18_4
          try clear hx18_5
          try clear hx18_6
          try clear hx18_7
          try clear hx18_8
          try clear p147
          try clear p16
          try clear p2
          try clear p6
          try clear q147
          try clear q16
          obtain ⟨x5_3, x7_3, rfl, HA, HK3, HO_5, HB⟩ := hrel
          cases gk with
          | zero => exact absurd HA.out (by simp [laws_toArticleSF.l1])
          | succ k3 =>
           have H := HA.out
           clear HA
           simp only [laws_toArticleSF.l1] at H
           by_cases c20 : x7_3 < (x5_3.length : Int)
           ·
            rw [if_pos c20] at H
            have c20b0 : decide (x7_3 < (x5_3.length : Int)) = true := decide_eq_true c20
            clear c20
            replace H := Option.bind_eq_some_iff.mp H
            obtain ⟨⟨t158, t159, t160, t161, t162, t163, t164, t165, t166⟩, A210, H⟩ := H
            replace H : (if 0 ≤ x7_3 then (laws_toArticleSF.l1 k3 l0 (x5_3.set (x7_3 : Int).toNat (⟨t158, t159, t160, t161, t162, t163, t164, t165, t166⟩ : S26)) (wrap64 (x7_3 + 1))) else (none)) = some r := H
            have A21 := Aside0.mk A210
            clear A210
            by_cases c22 : 0 ≤ x7_3
            ·
             rw [if_pos c22] at H
             have c22b0 : decide (0 ≤ x7_3) = true := decide_eq_true c22
             clear c22
             obtain ⟨y167, hy167⟩ : ∃ y_ : List (S26), y_ = (x5_3.set (x7_3 : Int).toNat (⟨t158, t159, t160, t161, t162, t163, t164, t165, t166⟩ : S26)) := ⟨_, rfl⟩
             replace H : (laws_toArticleSF.l1 k3 l0 y167 (wrap64 (x7_3 + 1))) = some r := by first | (rw [hy167]; with_reducible exact H) | (have H2_ := (Option.bind_some _ _).symm.trans H; rw [hy167]; with_reducible exact H2_) | (have H2_ := (Option.bind_some _ _).symm.trans H; with_reducible exact H2_) | with_reducible exact H | (rw [hy167]; exact H) | exact H
             have Ny167 := Aside0.mk hy167
             clear hy167
             have H' := Aside0.mk H
             clear H
             obtain ⟨Ao24, co24, eo24⟩ := Kd.R_slice HO_5.out
             subst eo24
             go_wp2_with (first | ((with_reducible refine gate_callee (f := 79) rfl ?_); refine goesL_ (some 45) rfl rfl Try.func79 (by kernel_rfl) rfl #[] rfl (by (try simp only [List.map_toArray, List.map_cons, List.map_nil]); first | done | rfl | (go_simp; done) | simp) ?_; (with_reducible refine (laws_fillerArticle.calls  t158 t159 t160 t161 t162 t163 t164 t165 t166 _ A21.out).mono ?_); rintro e w25 ⟨rfl, hb⟩; refine ⟨_, rfl, ?_⟩; have n0_ := Aside0.mk (Kd.R_below (by (with_reducible repeat (first | apply rA | apply rN | apply rD)); exact HO_5.out) hb); have n1_ := Aside0.mk (below_step (by repeat (first | (with_reducible first | exact HB.out | apply lA | apply lN | apply lD) | exact HB.out)) hb); clear HO_5; clear HB; have HO_5 := n0_; have HB := n1_; clear n0_ n1_; (try clear hb); (try clear hb2); (try clear hk); (try clear hi); have p23 : 0 ≤ (x7_3 : Int) := of_decide_eq_true (by with_reducible assumption); have q23 : (x7_3 : Int) < ((x5_3.length : Int) : Int) := of_decide_eq_true (by with_reducible assumption); obtain ⟨go23, co23, eo23, gb23, gl23, cl23, HG23⟩ := Kd.R_form HO_5.out (by omega); (first | cases eo23 | (injection eo23 with ea_ en_ ec_; (first | subst ea_ | (injection ea_ with ea_; subst ea_)); subst ec_; clear en_)); have GB23 := Aside0.mk gb23; have GG23 := Aside0.mk HG23; clear gb23 gl23 HG23; obtain ⟨ce23, hcl23, hM23, hcc23, hfr23⟩ := Kd.R_elem HO_5.out z26 (x7_3 : Int) p23 q23; obtain rfl := k26_openM hM23; have hx23_0 : w25.cell? ⟨go23, (x7_3 : Int).toNat * 9, none⟩ = some (.string ((rd_T26 x5_3 x7_3).f0)) := hcc23 0 _ rfl; have hx23_1 : w25.cell? ⟨go23, (x7_3 : Int).toNat * 9 + 1, none⟩ = some (.int .i64 ((rd_T26 x5_3 x7_3).f1)) := hcc23 1 _ rfl; have hx23_2 : w25.cell? ⟨go23, (x7_3 : Int).toNat * 9 + 2, none⟩ = some (.int .i64 ((rd_T26 x5_3 x7_3).f2)) := hcc23 2 _ rfl; have hx23_3 : w25.cell? ⟨go23, (x7_3 : Int).toNat * 9 + 3, none⟩ = some (.int .i64 ((rd_T26 x5_3 x7_3).f3)) := hcc23 3 _ rfl; have hx23_4 : w25.cell? ⟨go23, (x7_3 : Int).toNat * 9 + 4, none⟩ = some (.int .i64 ((rd_T26 x5_3 x7_3).f4)) := hcc23 4 _ rfl; have hx23_5 : w25.cell? ⟨go23, (x7_3 : Int).toNat * 9 + 5, none⟩ = some (.int .i64 ((rd_T26 x5_3 x7_3).f5)) := hcc23 5 _ rfl; have hx23_6 : w25.cell? ⟨go23, (x7_3 : Int).toNat * 9 + 6, none⟩ = some (.int .i64 ((rd_T26 x5_3 x7_3).f6)) := hcc23 6 _ rfl; have hx23_7 : w25.cell? ⟨go23, (x7_3 : Int).toNat * 9 + 7, none⟩ = some (.int .i64 ((rd_T26 x5_3 x7_3).f7)) := hcc23 7 _ rfl; have hx23_8 : w25.cell? ⟨go23, (x7_3 : Int).toNat * 9 + 8, none⟩ = some (.int .i64 ((rd_T26 x5_3 x7_3).f8)) := hcc23 8 _ rfl; have hf23_0 : w25.frozen? ⟨go23, (x7_3 : Int).toNat * 9, none⟩ = false := hfr23 0; have hf23_1 : w25.frozen? ⟨go23, (x7_3 : Int).toNat * 9 + 1, none⟩ = false := hfr23 1; have hf23_2 : w25.frozen? ⟨go23, (x7_3 : Int).toNat * 9 + 2, none⟩ = false := hfr23 2; have hf23_3 : w25.frozen? ⟨go23, (x7_3 : Int).toNat * 9 + 3, none⟩ = false := hfr23 3; have hf23_4 : w25.frozen? ⟨go23, (x7_3 : Int).toNat * 9 + 4, none⟩ = false := hfr23 4; have hf23_5 : w25.frozen? ⟨go23, (x7_3 : Int).toNat * 9 + 5, none⟩ = false := hfr23 5; have hf23_6 : w25.frozen? ⟨go23, (x7_3 : Int).toNat * 9 + 6, none⟩ = false := hfr23 6; have hf23_7 : w25.frozen? ⟨go23, (x7_3 : Int).toNat * 9 + 7, none⟩ = false := hfr23 7; have hf23_8 : w25.frozen? ⟨go23, (x7_3 : Int).toNat * 9 + 8, none⟩ = false := hfr23 8; clear hcl23 hcc23 hfr23 hM23; replace p23 := eq_true p23; replace q23 := eq_true q23; have HX26 := Aside0.mk (show Kd.R k26 26 w25 w.heap.size (fun _ => True) (.slice (some ⟨go23, 0, none⟩) x5_3.length co24) x5_3 from (by (with_reducible repeat (first | apply rA | apply rN | apply rD)); exact HO_5.out)); obtain ⟨ce26, hcl26, hM26, hcc26, hfr26⟩ := Kd.R_elem HX26.out z26 (x7_3 : Int) (of_decide_eq_true (by with_reducible assumption)) (by have h_ : (x7_3 : Int) < ((x5_3.length : Int) : Int) := of_decide_eq_true (by with_reducible assumption); first | exact h_ | (have e_ := (Kd.R_reads' HO_5.out).1; omega) | simpa using h_); obtain rfl := k26_openM hM26; have HP26 := Kd.R_seg HX26.out (x7_3 : Int) (of_decide_eq_true (by with_reducible assumption)) (by have h_ : (x7_3 : Int) < ((x5_3.length : Int) : Int) := of_decide_eq_true (by with_reducible assumption); first | exact h_ | (have e_ := (Kd.R_reads' HO_5.out).1; omega) | simpa using h_) (seg := [.string t158, .int .i64 t159, .int .i64 t160, .int .i64 t161, .int .i64 t162, .int .i64 t163, .int .i64 t164, .int .i64 t165, .int .i64 t166]) (j := 0) hcl26 hcc26 (show 9 ≤ 9 from by decide) (x' := (⟨t158, t159, t160, t161, t162, t163, t164, t165, t166⟩ : S26)) (k26_mkM _ _ _ (⟨t158, t159, t160, t161, t162, t163, t164, t165, t166⟩ : S26) ) (fun _ hk => hk); have hx26_0 := hcc26 0 _ rfl; (try simp only [show (k26).sz = 9 from rfl, Nat.mul_one, Nat.add_zero] at hx26_0); have hf26_0 := hfr26 0; (try simp only [show (k26).sz = 9 from rfl, Nat.mul_one, Nat.add_zero] at hf26_0); have hx26_1 := hcc26 1 _ rfl; (try simp only [show (k26).sz = 9 from rfl, Nat.mul_one, Nat.add_zero] at hx26_1); have hf26_1 := hfr26 1; (try simp only [show (k26).sz = 9 from rfl, Nat.mul_one, Nat.add_zero] at hf26_1); have hx26_2 := hcc26 2 _ rfl; (try simp only [show (k26).sz = 9 from rfl, Nat.mul_one, Nat.add_zero] at hx26_2); have hf26_2 := hfr26 2; (try simp only [show (k26).sz = 9 from rfl, Nat.mul_one, Nat.add_zero] at hf26_2); have hx26_3 := hcc26 3 _ rfl; (try simp only [show (k26).sz = 9 from rfl, Nat.mul_one, Nat.add_zero] at hx26_3); have hf26_3 := hfr26 3; (try simp only [show (k26).sz = 9 from rfl, Nat.mul_one, Nat.add_zero] at hf26_3); have hx26_4 := hcc26 4 _ rfl; (try simp only [show (k26).sz = 9 from rfl, Nat.mul_one, Nat.add_zero] at hx26_4); have hf26_4 := hfr26 4; (try simp only [show (k26).sz = 9 from rfl, Nat.mul_one, Nat.add_zero] at hf26_4); have hx26_5 := hcc26 5 _ rfl; (try simp only [show (k26).sz = 9 from rfl, Nat.mul_one, Nat.add_zero] at hx26_5); have hf26_5 := hfr26 5; (try simp only [show (k26).sz = 9 from rfl, Nat.mul_one, Nat.add_zero] at hf26_5); have hx26_6 := hcc26 6 _ rfl; (try simp only [show (k26).sz = 9 from rfl, Nat.mul_one, Nat.add_zero] at hx26_6); have hf26_6 := hfr26 6; (try simp only [show (k26).sz = 9 from rfl, Nat.mul_one, Nat.add_zero] at hf26_6); have hx26_7 := hcc26 7 _ rfl; (try simp only [show (k26).sz = 9 from rfl, Nat.mul_one, Nat.add_zero] at hx26_7); have hf26_7 := hfr26 7; (try simp only [show (k26).sz = 9 from rfl, Nat.mul_one, Nat.add_zero] at hf26_7); have hx26_8 := hcc26 8 _ rfl; (try simp only [show (k26).sz = 9 from rfl, Nat.mul_one, Nat.add_zero] at hx26_8); have hf26_8 := hfr26 8; (try simp only [show (k26).sz = 9 from rfl, Nat.mul_one, Nat.add_zero] at hf26_8); clear hcl26 hcc26 hfr26 hM26) | ((with_reducible refine gate_store (t := 26) (p := 46) rfl ?_); refine store_event (t := 26) (p := 46) (v := ?vo_w27) (w1 := (((((((((w25.setCell ⟨go23, (x7_3 : Int).toNat * 9, none⟩ (.string t158)).setCell ⟨go23, (x7_3 : Int).toNat * 9 + 1, none⟩ (.int .i64 t159)).setCell ⟨go23, (x7_3 : Int).toNat * 9 + 2, none⟩ (.int .i64 t160)).setCell ⟨go23, (x7_3 : Int).toNat * 9 + 3, none⟩ (.int .i64 t161)).setCell ⟨go23, (x7_3 : Int).toNat * 9 + 4, none⟩ (.int .i64 t162)).setCell ⟨go23, (x7_3 : Int).toNat * 9 + 5, none⟩ (.int .i64 t163)).setCell ⟨go23, (x7_3 : Int).toNat * 9 + 6, none⟩ (.int .i64 t164)).setCell ⟨go23, (x7_3 : Int).toNat * 9 + 7, none⟩ (.int .i64 t165)).setCell ⟨go23, (x7_3 : Int).toNat * 9 + 8, none⟩ (.int .i64 t166))) ?hg ?ho ?hn ?hr ?_; (case ho => rfl); (case hg => rfl); (case hn => rfl); (case hr => first | (go_simp; done) | (go_simp; rfl)); intro w27 hw; have hg : w25.grownBy w27 (some go23) := (by rw [hw]; exact HP26.2); have hp_ : Kd.R k26 26 w27 w.heap.size (fun _ => True) (.slice (some ⟨go23, 0, none⟩) x5_3.length co24) y167 := (by rw [hw, Ny167.out]; exact HP26.1); clear HP26; have n0_ := Aside0.mk (hp_); have n1_ := Aside0.mk ((by rw [hw]; exact below_set (below_set (below_set (below_set (below_set (below_set (below_set (below_set (below_set (HB.out) GB23.out) GB23.out) GB23.out) GB23.out) GB23.out) GB23.out) GB23.out) GB23.out) GB23.out : Below w.heap.size w w27)); clear HO_5; clear HB; have HO_5 := n0_; have HB := n1_; clear n0_ n1_; clear hg hw hp_))
             go_roundg k3
             case measure => have := HJ2.out; have := HK2.out; have := HK3.out; omega
             case rel => exact ⟨(y167), (wrap64 (x7_3 + 1)), (by first | rfl | (simp; done) | (simp [*]; done)), (by first | exact H' | (simp only [hji7]; exact H') | (have H2_ := H'; simp only [← hji7] at H2_; exact H2_)), ⟨by have := HJ2.out; have := HK2.out; have := HK3.out; omega⟩, ⟨by (with_reducible repeat (first | apply rA | apply rN | apply rD)); exact HO_5.out⟩, ⟨by repeat (first | (with_reducible first | exact HB.out | apply lA | apply lN | apply lD) | exact HB.out)⟩⟩
            ·
             rw [if_neg c22] at H
             exact absurd H (by simp)
           ·
            rw [if_neg c20] at H
            have c20b0 : decide (x7_3 < (x5_3.length : Int)) = false := decide_eq_false c20
            clear c20
            by_cases c28 : 0 ≤ (l0.length : Int)
            ·
             rw [if_pos c28] at H
             have c28b0 := eq_true c28
             have c28b1 : decide (0 ≤ (l0.length : Int)) = true := decide_eq_true c28
             clear c28
             by_cases c29 : (l0.length : Int) ≤ (x5_3.length : Int)
             ·
              rw [if_pos c29] at H
              have c29b0 := eq_true c29
              have c29b1 : decide ((l0.length : Int) ≤ (x5_3.length : Int)) = true := decide_eq_true c29
              clear c29
              obtain rfl := Option.some.inj H
              simp only [Option.some.injEq, Prod.mk.injEq] at H
              obtain ⟨rfl⟩ := H
              obtain ⟨Ao30, co30, eo30⟩ := Kd.R_slice HO_5.out
              subst eo30
              have q31 : ((l0.length : Int) : Int) ≤ ((x5_3.length : Int) : Int) := of_decide_eq_true (by with_reducible assumption)
              obtain ⟨i031, hi031, _, hsz31, _⟩ := info_parts info26
              have hcut31 := cut_to (P := Try.prog) 44 26 .i64 Try.underlying44 hi031 Ao30 x5_3.length co30 (l0.length : Int) (of_decide_eq_true (by with_reducible assumption)) q31 (Kd.R_reads' HO_5.out).2.1
              rw [Int.toNat_natCast] at hcut31
              have qn_ : l0.length ≤ x5_3.length := Int.ofNat_le.1 q31
              replace q31 := eq_true q31
              go_wp2
              go_ret
              exact ⟨Ao30, co30, rfl, by (with_reducible repeat (first | apply Kd.R_alloc | apply Kd.R_drewN | apply Kd.R_drew)); exact HO_5.out, qn_, by repeat (first | (with_reducible first | exact HB.out | apply below_alloc | apply pw_below_drewN | apply below_drew1) | exact HB.out)⟩
             ·
              rw [if_neg c29] at H
              exact absurd H (by simp)
            ·
             rw [if_neg c28] at H
             exact absurd H (by simp)
     ·
      rw [if_neg c9] at H
      exact absurd H (by simp)
    ·
     rw [if_neg c8] at H
     exact absurd H (by simp)

def laws_intactArticleSF.T2 : Bool × List (List Nat × List Nat) := (true, [([], []), ([0], [0]), ([], []), ([2], [2]), ([1, 3], [1, 3]), ([4], [4]), ([5], [5]), ([5], [5]), ([6, 7, 5], [5, 6, 7]), ([5], [5]), ([5], [5]), ([9, 10, 5], [5, 9, 10]), ([8, 11, 5, 5], [5, 8, 11]), ([5, 12], [5, 12]), ([13, 12, 0, 1, 2, 3, 4, 5, 6, 7, 8, 9, 10, 11, 12, 13], [13])])
def laws_intactArticleSF.B2 : List Nat := [0, 1, 0, 4, 15, 31, 63, 63, 255, 63, 63, 1599, 4095, 8191, 16383]
theorem laws_intactArticleSF.tab2 : rtab .any (opsOf Try.f34 2) = laws_intactArticleSF.T2 := by kernel_rfl
theorem laws_intactArticleSF.bits2 : waitsOk laws_intactArticleSF.T2.2 laws_intactArticleSF.B2 = true := by kernel_rfl
set_option maxHeartbeats 8000000 in
set_option maxRecDepth 100000 in
theorem laws_intactArticleSF.calls (k n : Nat) (A0 : Option Addr) (c0 : Nat) (l0 : List (S26)) (A1 : Option Addr) (c1 : Nat) (l1 : List (S26)) (t : Int) (w : World) (hr0 : Kd.C k26 w A0 l0.length l0) (hc0 : l0.length ≤ c0) (hr1 : Kd.C k26 w A1 l1.length l1) (hc1 : l1.length ≤ c1)
    (h3 : laws_roomBehind.f (n : Int) = some t) (hn : n ≤ 1000000000000) (ht : 0 ≤ t) (ht' : t ≤ 1000000000000) (hl0 : (l0.length : Int) = n + t) (hl1 : (l1.length : Int) = n + t) (h10 : laws_eqArticleS.f k l0 l1 = some true) :
    Calls Try.prog 34 #[.slice A0 n c0, .slice A1 n c1] w fun e w' => e = .returned (.bool true) ∧ Below w.heap.size w w' := by
  have HR0 := Aside0.mk hr0
  have HC0 := Aside0.mk hc0
  have HR1 := Aside0.mk hr1
  have HC1 := Aside0.mk hc1
  have A3 := Aside0.mk h3
  have A10 := Aside0.mk h10
  have HB := Aside0.mk (Below.refl w.heap.size w)
  obtain ⟨i011, hi011, _, hsz11, _⟩ := info_parts info26
  have c4b0 : ((n : Int) == (n : Int)) = true := by simp
  have c4b1 : ((n : Int) != (n : Int)) = false := by simp
  have c4b2 : (n == n) = true := by simp
  have hw : wrap64 ((n : Int) + t) = n + t := by unfold wrap64; omega
  obtain ⟨ji5, hji5⟩ : ∃ j_ : Int, (n : Int) + t = j_ := ⟨_, rfl⟩
  rw [hji5] at hl0 hl1
  have hji5w : (IntKind.i64.wrap ((n : Int) + t)) = ji5 := (i64_w _).trans (hw.trans hji5)
  have j0 : 0 ≤ ji5 := by omega
  have hcut11 := cut_cap (P := Try.prog) 44 26 .i64 Try.underlying44 hi011 A0 n c0 ji5 j0 (by omega)
  have hcut12 := cut_cap (P := Try.prog) 44 26 .i64 Try.underlying44 hi011 A1 n c1 ji5 j0 (by omega)
  have z0 : ji5.toNat = l0.length := by omega
  have z1 : ji5.toNat = l1.length := by omega
  rw [z0] at hcut11
  rw [z1] at hcut12
  clear hr0 hc0 hr1 hc1 h3 h10 hn ht ht' hl0 hl1 hi011 hsz11 j0 hw z0 z1 hji5
  go_enter Try.func34, Try.ntmps34
  try go_wp2_with (first | ((with_reducible refine gate_callee (f := 78) rfl ?_); refine goesL_ (some 10) rfl rfl Try.func78 (by kernel_rfl) rfl #[.int .i64 (n : Int)] rfl (by (try simp only [List.map_toArray, List.map_cons, List.map_nil]); first | done | rfl | (simp only [List.length_drop, List.length_take]; rfl) | (go_simp; done) | (simp; done) | (simp; rfl)) ?_; (with_reducible refine (laws_roomBehind.calls (n : Int) t _ A3.out).mono ?_); rintro e w' ⟨rfl, ⟨nd, rfl⟩⟩; refine ⟨_, rfl, ?_⟩))
  have hb1 : Below w.heap.size w (w.drewN nd).drew := below_drew1 (pw_below_drewN (Below.refl _ _) nd)
  have n0_ := Aside0.mk hb1
  have n1_ := Aside0.mk (Kd.C_below HR0.out hb1)
  have n2_ := Aside0.mk (Kd.C_below HR1.out hb1)
  clear HB HR0 HR1 hb1
  have HB := n0_
  have HR0 := n1_
  have HR1 := n2_
  clear n0_ n1_ n2_
  refine start_ (n := 15) (S := fun w' => True) (ds := []) #[false, false, false, false, false, false, false, false, false, false, false, false, false, false, false] (by kernel_rfl) rfl rfl trivial (fun hHeld => ?_); refine with_tabW laws_intactArticleSF.tab2 laws_intactArticleSF.bits2 (fun HT_ HW_ => ?_)
  generalize (w.drewN nd).drew = w11 at HB HR0 HR1 hHeld ⊢
  refine pure_ (i := 0) (N := some 12) (v := ?_) (a' := ?_) #[true, false, false, false, false, false, false, false, false, false, false, false, false, false, false] rfl rfl (any_of HT_.out (by kernel_rfl)) (fun _ _ _ h => h) (Or.inl ⟨by rfl, ?_⟩) ?_ ?_
  rotate_left
  · intro w'
    go_simp
    first | with_reducible rfl | (rw [if_neg (by simp only [ByteArray.size_append, ByteArray.size_extract, decide_eq_true_eq, eq_iff_iff, iff_true, iff_false] at *; omega)]; try with_reducible rfl)
  rotate_left
  · simp only [Act.put, List.setIfInBounds_toArray, List.set_cons_zero, List.set_cons_succ, i64_w, i32_w]
    rfl
  refine pure_ (i := 1) (N := some 13) (v := ?_) (a' := ?_) #[true, true, false, false, false, false, false, false, false, false, false, false, false, false, false] rfl rfl (any_of HT_.out (by kernel_rfl)) (fun _ _ _ h => h) (Or.inl ⟨by rfl, ?_⟩) ?_ ?_
  rotate_left
  · intro w'
    go_simp
    first | with_reducible rfl | (rw [if_neg (by simp only [ByteArray.size_append, ByteArray.size_extract, decide_eq_true_eq, eq_iff_iff, iff_true, iff_false] at *; omega)]; try with_reducible rfl)
  rotate_left
  · simp only [Act.put, List.setIfInBounds_toArray, List.set_cons_zero, List.set_cons_succ, i64_w, i32_w]
    rfl
  refine pure_ (i := 2) (N := some 14) (v := ?_) (a' := ?_) #[true, true, true, false, false, false, false, false, false, false, false, false, false, false, false] rfl rfl (any_of HT_.out (by kernel_rfl)) (fun _ _ _ h => h) (Or.inl ⟨by rfl, ?_⟩) ?_ ?_
  rotate_left
  · intro w'
    go_simp
    first | with_reducible rfl | (rw [if_neg (by simp only [ByteArray.size_append, ByteArray.size_extract, decide_eq_true_eq, eq_iff_iff, iff_true, iff_false] at *; omega)]; try with_reducible rfl)
  rotate_left
  · simp only [Act.put, List.setIfInBounds_toArray, List.set_cons_zero, List.set_cons_succ, i64_w, i32_w]
    rfl
  refine pure_ (i := 3) (N := some 15) (v := ?_) (a' := ?_) #[true, true, true, true, false, false, false, false, false, false, false, false, false, false, false] rfl rfl (any_of HT_.out (by kernel_rfl)) (fun _ _ _ h => h) (Or.inl ⟨by rfl, ?_⟩) ?_ ?_
  rotate_left
  · intro w'
    go_simp
    first | with_reducible rfl | (rw [if_neg (by simp only [ByteArray.size_append, ByteArray.size_extract, decide_eq_true_eq, eq_iff_iff, iff_true, iff_false] at *; omega)]; try with_reducible rfl)
  rotate_left
  · simp only [Act.put, List.setIfInBounds_toArray, List.set_cons_zero, List.set_cons_succ, i64_w, i32_w]
    rfl
  refine pure_ (i := 4) (N := some 16) (v := ?_) (a' := ?_) #[true, true, true, true, true, false, false, false, false, false, false, false, false, false, false] rfl rfl (any_of HT_.out (by kernel_rfl)) (fun _ _ _ h => h) (Or.inl ⟨by rfl, ?_⟩) ?_ ?_
  rotate_left
  · intro w'
    go_simp
    first | with_reducible rfl | (rw [if_neg (by simp only [ByteArray.size_append, ByteArray.size_extract, decide_eq_true_eq, eq_iff_iff, iff_true, iff_false] at *; omega)]; try with_reducible rfl)
  rotate_left
  · simp only [Act.put, List.setIfInBounds_toArray, List.set_cons_zero, List.set_cons_succ, i64_w, i32_w]
    rfl
  refine pure_ (i := 5) (N := some 17) (v := ?_) (a' := ?_) #[true, true, true, true, true, true, false, false, false, false, false, false, false, false, false] rfl rfl (any_of HT_.out (by kernel_rfl)) (fun _ _ _ h => h) (Or.inl ⟨by rfl, ?_⟩) ?_ ?_
  rotate_left
  · intro w'
    go_simp
    first | with_reducible rfl | (rw [if_neg (by simp only [ByteArray.size_append, ByteArray.size_extract, decide_eq_true_eq, eq_iff_iff, iff_true, iff_false] at *; omega)]; try with_reducible rfl)
  rotate_left
  · simp only [Act.put, List.setIfInBounds_toArray, List.set_cons_zero, List.set_cons_succ, i64_w, i32_w]
    rfl
  refine pure_ (i := 6) (N := some 18) (v := ?_) (a' := ?_) #[true, true, true, true, true, true, true, false, false, false, false, false, false, false, false] rfl rfl (any_of HT_.out (by kernel_rfl)) (fun _ _ _ h => h) (Or.inl ⟨by rfl, ?_⟩) ?_ ?_
  rotate_left
  · intro w'
    go_simp
    first | with_reducible rfl | (rw [if_neg (by simp only [ByteArray.size_append, ByteArray.size_extract, decide_eq_true_eq, eq_iff_iff, iff_true, iff_false] at *; omega)]; try with_reducible rfl)
  rotate_left
  · simp only [Act.put, List.setIfInBounds_toArray, List.set_cons_zero, List.set_cons_succ, i64_w, i32_w]
    rfl
  refine pure_ (i := 7) (N := some 19) (v := ?_) (a' := ?_) #[true, true, true, true, true, true, true, true, false, false, false, false, false, false, false] rfl rfl (any_of HT_.out (by kernel_rfl)) (fun _ _ _ h => h) (Or.inl ⟨by rfl, ?_⟩) ?_ ?_
  rotate_left
  · intro w'
    go_simp
    first | with_reducible rfl | (rw [if_neg (by simp only [ByteArray.size_append, ByteArray.size_extract, decide_eq_true_eq, eq_iff_iff, iff_true, iff_false] at *; omega)]; try with_reducible rfl)
  rotate_left
  · simp only [Act.put, List.setIfInBounds_toArray, List.set_cons_zero, List.set_cons_succ, i64_w, i32_w]
    rfl
  refine pure_ (i := 8) (N := some 20) (v := ?_) (a' := ?_) #[true, true, true, true, true, true, true, true, true, false, false, false, false, false, false] rfl rfl (any_of HT_.out (by kernel_rfl)) (fun _ _ _ h => h) (Or.inl ⟨by rfl, ?_⟩) ?_ ?_
  rotate_left
  · intro w'
    go_simp
    first | with_reducible rfl | (rw [if_neg (by simp only [ByteArray.size_append, ByteArray.size_extract, decide_eq_true_eq, eq_iff_iff, iff_true, iff_false] at *; omega)]; try with_reducible rfl)
  rotate_left
  · simp only [Act.put, List.setIfInBounds_toArray, List.set_cons_zero, List.set_cons_succ, i64_w, i32_w]
    rfl
  refine pure_ (i := 9) (N := some 21) (v := ?_) (a' := ?_) #[true, true, true, true, true, true, true, true, true, true, false, false, false, false, false] rfl rfl (any_of HT_.out (by kernel_rfl)) (fun _ _ _ h => h) (Or.inl ⟨by rfl, ?_⟩) ?_ ?_
  rotate_left
  · intro w'
    go_simp
    first | with_reducible rfl | (rw [if_neg (by simp only [ByteArray.size_append, ByteArray.size_extract, decide_eq_true_eq, eq_iff_iff, iff_true, iff_false] at *; omega)]; try with_reducible rfl)
  rotate_left
  · simp only [Act.put, List.setIfInBounds_toArray, List.set_cons_zero, List.set_cons_succ, i64_w, i32_w]
    rfl
  refine pure_ (i := 10) (N := some 22) (v := ?_) (a' := ?_) #[true, true, true, true, true, true, true, true, true, true, true, false, false, false, false] rfl rfl (any_of HT_.out (by kernel_rfl)) (fun _ _ _ h => h) (Or.inl ⟨by rfl, ?_⟩) ?_ ?_
  rotate_left
  · intro w'
    go_simp
    first | with_reducible rfl | (rw [if_neg (by simp only [ByteArray.size_append, ByteArray.size_extract, decide_eq_true_eq, eq_iff_iff, iff_true, iff_false] at *; omega)]; try with_reducible rfl)
  rotate_left
  · simp only [Act.put, List.setIfInBounds_toArray, List.set_cons_zero, List.set_cons_succ, i64_w, i32_w]
    rfl
  refine pure_ (i := 11) (N := some 23) (v := ?_) (a' := ?_) #[true, true, true, true, true, true, true, true, true, true, true, true, false, false, false] rfl rfl (any_of HT_.out (by kernel_rfl)) (fun _ _ _ h => h) (Or.inl ⟨by rfl, ?_⟩) ?_ ?_
  rotate_left
  · intro w'
    go_simp
    first | with_reducible rfl | (rw [if_neg (by simp only [ByteArray.size_append, ByteArray.size_extract, decide_eq_true_eq, eq_iff_iff, iff_true, iff_false] at *; omega)]; try with_reducible rfl)
  rotate_left
  · simp only [Act.put, List.setIfInBounds_toArray, List.set_cons_zero, List.set_cons_succ, i64_w, i32_w]
    rfl
  refine one_ (i := 12) (N := some 24) #[true, true, true, true, true, true, true, true, true, true, true, true, true, false, false] rfl rfl (one_of HT_.out (by kernel_rfl)) (by decide) (fun K hK => ?_)
  refine goes_ Try.func81 (by kernel_rfl) rfl #[.slice A0 l0.length c0, .slice A1 l1.length c1] (by rfl) rfl rfl (by (try simp only [List.map_toArray, List.map_cons, List.map_nil]); first | done | rfl | (simp only [List.length_drop, List.length_take]; rfl) | (go_simp; done) | (simp; done) | (simp; rfl)) ?_
  with_reducible refine (laws_eqArticleS.calls k _ _ l0 _ _ l1 true _ ?side1 ?side2 ?side3 ?side4 A10.out).mono ?_
  (case side1 => repeat (first | exact HR0.out | (with_reducible refine Kd.C_alloc ?_ _) | (with_reducible refine Kd.C_drewN ?_ _) | (with_reducible refine Kd.C_drew ?_)))
  (case side2 => exact HC0.out)
  (case side3 => repeat (first | exact HR1.out | (with_reducible refine Kd.C_alloc ?_ _) | (with_reducible refine Kd.C_drewN ?_ _) | (with_reducible refine Kd.C_drew ?_)))
  (case side4 => exact HC1.out)
  rintro e w14 ⟨rfl, hb⟩
  refine ⟨_, rfl, ?_⟩
  have n0_ := Aside0.mk (below_step (by repeat (first | (with_reducible first | exact HB.out | apply below_alloc | apply pw_below_drewN | apply below_drew1) | exact HB.out)) hb)
  clear HB
  have HB := n0_
  clear n0_
  clear hb
  refine hK.out _ _ trivial (fun hHeld => ?_)
  clear hK K
  refine norm_ (a' := ?_) ?_ ?_
  rotate_left
  · show Act.put _ (some 24) _ = _
    simp only [Act.put, List.setIfInBounds_toArray, List.set_cons_zero, List.set_cons_succ, i64_w, i32_w]
    rfl
  refine pure_ (i := 13) (N := some 25) (v := ?_) (a' := ?_) #[true, true, true, true, true, true, true, true, true, true, true, true, true, true, false] rfl rfl (any_of HT_.out (by kernel_rfl)) (fun _ _ _ h => h) (Or.inl ⟨by rfl, ?_⟩) ?_ ?_
  rotate_left
  · intro w'
    go_simp
    first | with_reducible rfl | (rw [if_neg (by simp only [ByteArray.size_append, ByteArray.size_extract, decide_eq_true_eq, eq_iff_iff, iff_true, iff_false] at *; omega)]; try with_reducible rfl)
  rotate_left
  · simp only [Act.put, List.setIfInBounds_toArray, List.set_cons_zero, List.set_cons_succ, i64_w, i32_w]
    rfl
  refine pure_ (i := 14) (N := some 4) (v := ?_) (a' := ?_) #[true, true, true, true, true, true, true, true, true, true, true, true, true, true, true] rfl rfl (any_of HT_.out (by kernel_rfl)) (fun _ _ _ h => h) (Or.inl ⟨by rfl, ?_⟩) ?_ ?_
  rotate_left
  · intro w'
    go_simp
    first | with_reducible rfl | (rw [if_neg (by simp only [ByteArray.size_append, ByteArray.size_extract, decide_eq_true_eq, eq_iff_iff, iff_true, iff_false] at *; omega)]; try with_reducible rfl)
  rotate_left
  · simp only [Act.put, List.setIfInBounds_toArray, List.set_cons_zero, List.set_cons_succ, i64_w, i32_w]
    rfl
  refine done_ (done_of HT_.out (by kernel_rfl)) ?_
  try go_wp2
  go_ret
  exact ⟨by first | rfl | (simp [errW_none, errW_some] <;> rfl) | (simp [*, errW_none, errW_some] <;> rfl), by repeat (first | (with_reducible first | exact HB.out | apply below_alloc | apply pw_below_drewN | apply below_drew1) | exact HB.out)⟩

/-! ### laws_toInt64S, whole: function 31 -/
mutual
def laws_toInt64SF.j0 : Nat → List Int → Bool → Option (List Int)
 | 0, _, _ => none
 | k + 1, x0, x13 => if x13 = true then (none) else ((laws_roomBehind.f (x0.length : Int)).bind fun t171 => (if 0 ≤ (wrap64 ((x0.length : Int) + t171)) then (if (wrap64 ((x0.length : Int) + t171) : Int).toNat ≤ 35184372088832 then (laws_toInt64SF.l0 k x0 (List.replicate (wrap64 ((x0.length : Int) + t171) : Int).toNat 0) 0) else (none)) else (none)))
def laws_toInt64SF.l0 : Nat → List Int → List Int → Int → Option (List Int)
 | 0, _, _, _ => none
 | k + 1, x0, x5, x6 => if x6 < (x0.length : Int) then (if 0 ≤ x6 then (if x6 < (x5.length : Int) then (laws_toInt64SF.l0 k x0 (x5.set (x6 : Int).toNat (rd x0 x6)) (wrap64 (x6 + 1))) else (none)) else (none)) else (laws_toInt64SF.l1 k x0 x5 (x0.length : Int))
def laws_toInt64SF.l1 : Nat → List Int → List Int → Int → Option (List Int)
 | 0, _, _, _ => none
 | k + 1, x0, x5, x7 => if x7 < (x5.length : Int) then (if 0 ≤ x7 then (laws_toInt64SF.l1 k x0 (x5.set (x7 : Int).toNat (-7000000000000000101)) (wrap64 (x7 + 1))) else (none)) else (if 0 ≤ (x0.length : Int) then (if (x0.length : Int) ≤ (x5.length : Int) then (some x5) else (none)) else (none))
end
def laws_toInt64SF.f (k : Nat) (l0 : List Int) (a1 : Bool) : Option (List Int) := if a1 = true then (laws_toInt64SF.j0 k l0 ((l0.length : Int) == 0)) else (laws_toInt64SF.j0 k l0 false)
theorem laws_toInt64SF.mono_l : ∀ k, (∀ y0 y1, LeO (laws_toInt64SF.j0 k y0 y1) (laws_toInt64SF.j0 (k + 1) y0 y1)) ∧ (∀ y0 y1 y2, LeO (laws_toInt64SF.l0 k y0 y1 y2) (laws_toInt64SF.l0 (k + 1) y0 y1 y2)) ∧ (∀ y0 y1 y2, LeO (laws_toInt64SF.l1 k y0 y1 y2) (laws_toInt64SF.l1 (k + 1) y0 y1 y2))
 | 0 => ⟨fun _ _ r h => by simp [laws_toInt64SF.j0] at h, fun _ _ _ r h => by simp [laws_toInt64SF.l0] at h, fun _ _ _ r h => by simp [laws_toInt64SF.l1] at h⟩
 | k + 1 => by
  obtain ⟨ih0, ih1, ih2⟩ := laws_toInt64SF.mono_l k
  refine ⟨?_, ?_, ?_⟩
  ·
   intro y0 y1
   unfold laws_toInt64SF.j0
   repeat' first
   | (with_reducible exact ih0 _ _)
   | (with_reducible exact ih1 _ _ _)
   | (with_reducible exact ih2 _ _ _)
   | (with_reducible exact LeO.refl _)
   | (with_reducible exact LeO.none _)
   | (with_reducible refine LeO.ite ?_ ?_)
   | (with_reducible refine LeO.bind ?_ (fun _ => ?_))
   | exact ih0 _ _
   | exact ih1 _ _ _
   | exact ih2 _ _ _
   | exact LeO.none _
   | refine LeO.ite ?_ ?_
   | refine LeO.bind ?_ (fun _ => ?_)
  ·
   intro y0 y1 y2
   unfold laws_toInt64SF.l0
   repeat' first
   | (with_reducible exact ih0 _ _)
   | (with_reducible exact ih1 _ _ _)
   | (with_reducible exact ih2 _ _ _)
   | (with_reducible exact LeO.refl _)
   | (with_reducible exact LeO.none _)
   | (with_reducible refine LeO.ite ?_ ?_)
   | (with_reducible refine LeO.bind ?_ (fun _ => ?_))
   | exact ih0 _ _
   | exact ih1 _ _ _
   | exact ih2 _ _ _
   | exact LeO.none _
   | refine LeO.ite ?_ ?_
   | refine LeO.bind ?_ (fun _ => ?_)
  ·
   intro y0 y1 y2
   unfold laws_toInt64SF.l1
   repeat' first
   | (with_reducible exact ih0 _ _)
   | (with_reducible exact ih1 _ _ _)
   | (with_reducible exact ih2 _ _ _)
   | (with_reducible exact LeO.refl _)
   | (with_reducible exact LeO.none _)
   | (with_reducible refine LeO.ite ?_ ?_)
   | (with_reducible refine LeO.bind ?_ (fun _ => ?_))
   | exact ih0 _ _
   | exact ih1 _ _ _
   | exact ih2 _ _ _
   | exact LeO.none _
   | refine LeO.ite ?_ ?_
   | refine LeO.bind ?_ (fun _ => ?_)
theorem laws_toInt64SF.mono : ∀ a0 a1 k, LeO (laws_toInt64SF.f k a0 a1) (laws_toInt64SF.f (k + 1) a0 a1) := by
 intro a0 a1 k
 obtain ⟨ih0, ih1, ih2⟩ := laws_toInt64SF.mono_l k
 unfold laws_toInt64SF.f
 repeat' first
   | (with_reducible exact ih0 _ _)
   | (with_reducible exact ih1 _ _ _)
   | (with_reducible exact ih2 _ _ _)
   | (with_reducible exact LeO.refl _)
   | (with_reducible exact LeO.none _)
   | (with_reducible refine LeO.ite ?_ ?_)
   | (with_reducible refine LeO.bind ?_ (fun _ => ?_))
   | exact ih0 _ _
   | exact ih1 _ _ _
   | exact ih2 _ _ _
   | exact LeO.none _
   | refine LeO.ite ?_ ?_
   | refine LeO.bind ?_ (fun _ => ?_)
set_option maxHeartbeats 40000000 in
set_option maxRecDepth 100000 in
theorem laws_toInt64SF.calls (k : Nat) (A0 : Option Addr) (c0 : Nat) (l0 : List Int) (a1 : Bool) (r : List Int) (w : World) (hr0 : Kd.C (Kd.int .i64) w A0 l0.length l0) (hc0 : l0.length ≤ c0) (h : laws_toInt64SF.f k l0 a1 = some r) :
  Calls Try.prog 31 #[.slice A0 l0.length c0, .bool a1] w fun e w' => ∃ (A1 : Option Addr) (c1 : Nat), e = .returned (.slice A1 l0.length c1) ∧ Kd.R (Kd.int .i64) 2 w' w.heap.size (fun _ => True) (.slice A1 r.length c1) r ∧ l0.length ≤ r.length ∧ Below w.heap.size w w' := by
 have HR0 := Aside0.mk hr0
 have HC0 := Aside0.mk hc0
 clear hr0 hc0
 have HB := Aside0.mk (Below.refl w.heap.size w)
 have H : (if a1 = true then (laws_toInt64SF.j0 k l0 ((l0.length : Int) == 0)) else (laws_toInt64SF.j0 k l0 false)) = some r := h
 clear h
 have HC3 := Aside0.mk H
 clear H
 go_enter Try.func31, Try.ntmps31
 go_upto_region 1 with (fail)
 go_cut [13] (fun v13 wc => ∃ (kq : Nat) (x13_2 : Bool), v13 = .bool x13_2 ∧ Aside0 (laws_toInt64SF.j0 kq l0 x13_2 = some r) ∧ Aside0 (kq ≤ k) ∧ Aside0 (Below w.heap.size w wc))
 case first =>
  have H := HC3.out
  clear HC3
  by_cases c4 : a1 = true
  ·
   subst c4
   have H1 : (laws_toInt64SF.j0 k l0 ((l0.length : Int) == 0)) = some r := by rw [if_pos rfl] at H; exact H
   clear H
   have H := H1
   clear H1
   have H' := Aside0.mk H
   clear H
   go_wp2
   go_meet
   case rel => exact ⟨_, (((l0.length : Int) == 0)), (by first | rfl | (simp; done) | (simp [*]; done)), H', ⟨by first | omega | exact Nat.le_refl _⟩, ⟨by repeat (first | (with_reducible first | exact HB.out | apply lA | apply lN | apply lD) | exact HB.out)⟩⟩
  ·
   replace c4 := Bool.eq_false_iff.mpr c4
   subst c4
   have H1 : (laws_toInt64SF.j0 k l0 false) = some r := by rw [if_neg (show ¬ (false = true) by decide)] at H; exact H
   clear H
   have H := H1
   clear H1
   have H' := Aside0.mk H
   clear H
   go_wp2
   go_meet
   case rel => exact ⟨_, (false), (by first | rfl | (simp; done) | (simp [*]; done)), H', ⟨by first | omega | exact Nat.le_refl _⟩, ⟨by repeat (first | (with_reducible first | exact HB.out | apply lA | apply lN | apply lD) | exact HB.out)⟩⟩
 case rest =>
  clear HC3
  try clear p2
  try clear c3
  try clear c4
  obtain ⟨kq, x13_2, rfl, HA, HJ2, HB⟩ := hcut
  cases kq with
  | zero => exact absurd HA.out (by simp [laws_toInt64SF.j0])
  | succ kj2 =>
   have H := HA.out
   clear HA
   simp only [laws_toInt64SF.j0] at H
   by_cases c5 : x13_2 = true
   ·
    subst c5
    have H1 : (none : Option (List Int)) = some r := by rw [if_pos rfl] at H; exact H
    exact absurd H1 (by simp)
   ·
    replace c5 := Bool.eq_false_iff.mpr c5
    subst c5
    have H1 : ((laws_roomBehind.f (l0.length : Int)).bind fun t171 => (if 0 ≤ (wrap64 ((l0.length : Int) + t171)) then (if (wrap64 ((l0.length : Int) + t171) : Int).toNat ≤ 35184372088832 then (laws_toInt64SF.l0 kj2 l0 (List.replicate (wrap64 ((l0.length : Int) + t171) : Int).toNat 0) 0) else (none)) else (none))) = some r := by rw [if_neg (show ¬ (false = true) by decide)] at H; exact H
    clear H
    have H := H1
    clear H1
    replace H := Option.bind_eq_some_iff.mp H
    obtain ⟨t171, A60, H⟩ := H
    replace H : (if 0 ≤ (wrap64 ((l0.length : Int) + t171)) then (if (wrap64 ((l0.length : Int) + t171) : Int).toNat ≤ 35184372088832 then (laws_toInt64SF.l0 kj2 l0 (List.replicate (wrap64 ((l0.length : Int) + t171) : Int).toNat 0) 0) else (none)) else (none)) = some r := H
    have A6 := Aside0.mk A60
    clear A60
    obtain ⟨ji7, hji7⟩ : ∃ j_ : Int, (wrap64 ((l0.length : Int) + t171)) = j_ := ⟨_, rfl⟩
    replace H : (if 0 ≤ (ji7) then (if (ji7 : Int).toNat ≤ 35184372088832 then (laws_toInt64SF.l0 kj2 l0 (List.replicate (ji7 : Int).toNat 0) 0) else (none)) else (none)) = some r := by first | (rw [hji7] at H; exact H) | (simp only [hji7] at H ⊢; exact H)
    (try rw [hji7] at A6)
    have hji7w : (IntKind.i64.wrap ((l0.length : Int) + t171)) = ji7 := (i64_w _).trans hji7
    by_cases c8 : 0 ≤ (ji7)
    ·
     rw [if_pos c8] at H
     have c8b0 := eq_true c8
     have c8b1 : decide (0 ≤ (ji7)) = true := decide_eq_true c8
     clear c8
     by_cases c9 : (ji7 : Int).toNat ≤ 35184372088832
     ·
      rw [if_pos c9] at H
      have c9b0 := eq_true c9
      have c9b1 : decide ((ji7 : Int).toNat ≤ 35184372088832) = true := decide_eq_true c9
      clear c9
      obtain ⟨y172, hy172⟩ : ∃ y_ : List Int, y_ = (List.replicate (ji7 : Int).toNat 0) := ⟨_, rfl⟩
      replace H : (laws_toInt64SF.l0 kj2 l0 y172 0) = some r := by first | (rw [hy172]; with_reducible exact H) | (have H2_ := (Option.bind_some _ _).symm.trans H; rw [hy172]; with_reducible exact H2_) | (have H2_ := (Option.bind_some _ _).symm.trans H; with_reducible exact H2_) | with_reducible exact H | (rw [hy172]; exact H) | exact H
      have Ny172 := Aside0.mk hy172
      clear hy172
      have H' := Aside0.mk H
      clear H
      go_wp2_with (first | ((with_reducible refine gate_callee (f := 78) rfl ?_); refine goesL_ (some 18) rfl rfl Try.func78 (by kernel_rfl) rfl #[.int .i64 (l0.length : Int)] rfl (by (try simp only [List.map_toArray, List.map_cons, List.map_nil]); first | done | rfl | (go_simp; done) | simp) ?_; (with_reducible refine (laws_roomBehind.calls (l0.length : Int) t171 _ A6.out).mono ?_); rintro e w' ⟨rfl, ⟨nd, rfl⟩⟩; refine ⟨_, rfl, ?_⟩) | ((with_reducible refine gate_dst (N := 20) rfl ?_); (try (refine gate_guard (by rfl) ?_; dsimp only)); refine Kd.R_make (Kd.int .i64) _ 2 rfl (N := 20) rfl 40 _ _ rfl ji7 rfl rfl Try.underlying40 (.int .i64 0) 8 info2 rfl (by decide) (by omega) 0 (ok := fun _ => True) (okp := fun _ => True) rfl (fun _ hk => hk) trivial (of_decide_eq_true (by with_reducible assumption)) (Nat.le_trans (Nat.mul_le_mul_right _ (of_decide_eq_true (by with_reducible assumption) : ji7.toNat ≤ 35184372088832)) (by omega)) (Below.refl _ _) (Nat.le_refl _) ?_; intro v173 w10 ho11 hb hg_ hnew_; clear hg_ hnew_; (first | rw [← Ny172.out] at ho11 | (simp only [Int.reduceToNat] at ho11; rw [← Ny172.out] at ho11)); have n0_ := Aside0.mk (Kd.R_lower ho11 (below_size (by repeat (first | (with_reducible first | exact HB.out | apply lA | apply lN | apply lD) | exact HB.out)))); have n1_ := Aside0.mk (below_step (by repeat (first | (with_reducible first | exact HB.out | apply lA | apply lN | apply lD) | exact HB.out)) hb); clear HB; have HO174 := n0_; have HB := n1_; clear n0_ n1_; clear hb ho11))
      go_loopg [6] kj2 (fun kq v6 w' => ∃ (x5_2 : List Int) (x6_2 : Int), v6 = .int .i64 x6_2 ∧ Aside0 (laws_toInt64SF.l0 kq l0 x5_2 x6_2 = some r) ∧ Aside0 (kq ≤ kj2) ∧ Aside0 (Kd.R (Kd.int .i64) 2 w' w.heap.size (fun _ => True) v173 x5_2) ∧ Aside0 (Below w.heap.size w w'))
      case atStart => exact ⟨(y172), (0), (by first | rfl | (simp; done) | (simp [*]; done)), H', ⟨Nat.le_refl _⟩, ⟨by (with_reducible repeat (first | apply rA | apply rN | apply rD)); exact HO174.out⟩, ⟨by repeat (first | (with_reducible first | exact HB.out | apply lA | apply lN | apply lD) | exact HB.out)⟩⟩
      case round =>
       clear H'
       try clear p2
       try clear c3
       try clear c4
       try clear c5
       try clear p6
       try clear c7
       try clear c8
       try clear c8b0
       try clear c8b1
       try clear c9
       try clear c9b0
       try clear c9b1
       try clear p2
       obtain ⟨x5_2, x6_2, rfl, HA, HK2, HO_5, HB⟩ := hrel
       cases gk with
       | zero => exact absurd HA.out (by simp [laws_toInt64SF.l0])
       | succ k2 =>
        have H := HA.out
        clear HA
        simp only [laws_toInt64SF.l0] at H
        by_cases c12 : x6_2 < (l0.length : Int)
        ·
         rw [if_pos c12] at H
         have c12b0 : decide (x6_2 < (l0.length : Int)) = true := decide_eq_true c12
         clear c12
         by_cases c13 : 0 ≤ x6_2
         ·
          rw [if_pos c13] at H
          have c13b0 : decide (0 ≤ x6_2) = true := decide_eq_true c13
          clear c13
          by_cases c14 : x6_2 < (x5_2.length : Int)
          ·
           rw [if_pos c14] at H
           have c14b0 : decide (x6_2 < (x5_2.length : Int)) = true := decide_eq_true c14
           clear c14
           obtain ⟨y176, hy176⟩ : ∃ y_ : List Int, y_ = (x5_2.set (x6_2 : Int).toNat (rd l0 x6_2)) := ⟨_, rfl⟩
           replace H : (laws_toInt64SF.l0 k2 l0 y176 (wrap64 (x6_2 + 1))) = some r := by first | (rw [hy176]; with_reducible exact H) | (have H2_ := (Option.bind_some _ _).symm.trans H; rw [hy176]; with_reducible exact H2_) | (have H2_ := (Option.bind_some _ _).symm.trans H; with_reducible exact H2_) | with_reducible exact H | (rw [hy176]; exact H) | exact H
           have Ny176 := Aside0.mk hy176
           clear hy176
           have H' := Aside0.mk H
           clear H
           have p175 : 0 ≤ (x6_2 : Int) := of_decide_eq_true (by with_reducible assumption)
           have q175 : x6_2 < (l0.length : Int) := of_decide_eq_true (by with_reducible assumption)
           obtain ⟨ad175, e175, hx175_0⟩ := Kd.at_int HR0.out x6_2 p175 q175
           cases e175
           replace hx175_0 := cB HB.out hx175_0
           replace p175 := eq_true p175
           replace q175 := eq_true q175
           have p15 : 0 ≤ (x6_2 : Int) := of_decide_eq_true (by with_reducible assumption)
           have q15 : (x6_2 : Int) < ((x5_2.length : Int) : Int) := of_decide_eq_true (by with_reducible assumption)
           obtain ⟨go15, co15, eo15, gb15, gl15, cl15, HG15⟩ := Kd.R_form HO_5.out (by omega)
           (first | cases eo15 | (injection eo15 with ea_ en_ ec_; (first | subst ea_ | (injection ea_ with ea_; subst ea_)); subst ec_; clear en_))
           have GB15 := Aside0.mk gb15
           have GG15 := Aside0.mk HG15
           clear gb15 gl15 HG15
           obtain ⟨hx15_0, hf15_0⟩ := Kd.R_celln 0 HO_5.out (x6_2 : Int) p15 q15
           replace p15 := eq_true p15
           replace q15 := eq_true q15
           have HP16 := Kd.R_putg HO_5.out (x6_2 : Int) (rd l0 x6_2)
           go_wp2_with (first | ((with_reducible refine gate_store (t := 2) (p := 33) rfl ?_); refine store_event (t := 2) (p := 33) (v := ?vo_w17) (w1 := (wr.setCell ⟨go15, (x6_2 : Int).toNat, none⟩ (.int .i64 (rd l0 x6_2)))) ?hg ?ho ?hn ?hr ?_; (case ho => rfl); (case hg => rfl); (case hn => rfl); (case hr => first | (go_simp; done) | (go_simp; rfl)); intro w17 hw; have hg : wr.grownBy w17 (some go15) := (by rw [hw]; exact HP16.2); have hp_ : Kd.R (Kd.int .i64) 2 w17 w.heap.size (fun _ => True) (.slice (some ⟨go15, 0, none⟩) x5_2.length co15) y176 := (by rw [hw, Ny176.out]; exact HP16.1); clear HP16; have n0_ := Aside0.mk (hp_); have n1_ := Aside0.mk ((by rw [hw]; exact below_set (HB.out) GB15.out : Below w.heap.size w w17)); clear HO_5; clear HB; have HO_5 := n0_; have HB := n1_; clear n0_ n1_; clear hg hw hp_))
           go_roundg k2
           case measure => have := HJ2.out; have := HK2.out; omega
           case rel => exact ⟨(y176), (wrap64 (x6_2 + 1)), (by first | rfl | (simp; done) | (simp [*]; done)), (by first | exact H' | (simp only [hji7]; exact H') | (have H2_ := H'; simp only [← hji7] at H2_; exact H2_)), ⟨by have := HJ2.out; have := HK2.out; omega⟩, ⟨by (with_reducible repeat (first | apply rA | apply rN | apply rD)); exact HO_5.out⟩, ⟨by repeat (first | (with_reducible first | exact HB.out | apply lA | apply lN | apply lD) | exact HB.out)⟩⟩
          ·
           rw [if_neg c14] at H
           exact absurd H (by simp)
         ·
          rw [if_neg c13] at H
          exact absurd H (by simp)
        ·
         rw [if_neg c12] at H
         have c12b0 : decide (x6_2 < (l0.length : Int)) = false := decide_eq_false c12
         clear c12
         have H' := Aside0.mk H
         clear H
         go_wp2
         go_loopg [7] k2 (fun kq v7 w' => ∃ (x5_3 : List Int) (x7_3 : Int), v7 = .int .i64 x7_3 ∧ Aside0 (laws_toInt64SF.l1 kq l0 x5_3 x7_3 = some r) ∧ Aside0 (kq ≤ k2) ∧ Aside0 (Kd.R (Kd.int .i64) 2 w' w.heap.size (fun _ => True) v173 x5_3) ∧ Aside0 (Below w.heap.size w w'))
         case atStart => exact ⟨(x5_2), ((l0.length : Int)), (by first | rfl | (simp; done) | (simp [*]; done)), H', ⟨Nat.le_refl _⟩, ⟨by (with_reducible repeat (first | apply rA | apply rN | apply rD)); exact HO_5.out⟩, ⟨by repeat (first | (with_reducible first | exact HB.out | apply lA | apply lN | apply lD) | exact HB.out)⟩⟩
         case round =>
          clear H'
          try clear c1
          try clear p1
          try clear q1
          try clear hx1
          try clear p2
          try clear c3
          try clear c4
          try clear c5
          try clear p6
          try clear c7
          try clear c8
          try clear c8b0
          try clear c8b1
          try clear c9
          try clear c9b0
          try clear c9b1
          try clear c12
          try clear c12b0
          try clear c13
          try clear c13b0
          try clear c14
          try clear c14b0
          try clear p15
          try clear q15
          try clear hx15
          try clear hf15
          try clear p17
          try clear q17
          try clear hx17
          try clear hx15_0
          try clear hx175_0
          try clear p15
          try clear p175
          try clear p2
          try clear p6
          try clear q15
          try clear q175
          obtain ⟨x5_3, x7_3, rfl, HA, HK3, HO_5, HB⟩ := hrel
          cases gk with
          | zero => exact absurd HA.out (by simp [laws_toInt64SF.l1])
          | succ k3 =>
           have H := HA.out
           clear HA
           simp only [laws_toInt64SF.l1] at H
           by_cases c18 : x7_3 < (x5_3.length : Int)
           ·
            rw [if_pos c18] at H
            have c18b0 : decide (x7_3 < (x5_3.length : Int)) = true := decide_eq_true c18
            clear c18
            by_cases c19 : 0 ≤ x7_3
            ·
             rw [if_pos c19] at H
             have c19b0 : decide (0 ≤ x7_3) = true := decide_eq_true c19
             clear c19
             obtain ⟨y177, hy177⟩ : ∃ y_ : List Int, y_ = (x5_3.set (x7_3 : Int).toNat (-7000000000000000101)) := ⟨_, rfl⟩
             replace H : (laws_toInt64SF.l1 k3 l0 y177 (wrap64 (x7_3 + 1))) = some r := by first | (rw [hy177]; with_reducible exact H) | (have H2_ := (Option.bind_some _ _).symm.trans H; rw [hy177]; with_reducible exact H2_) | (have H2_ := (Option.bind_some _ _).symm.trans H; with_reducible exact H2_) | with_reducible exact H | (rw [hy177]; exact H) | exact H
             have Ny177 := Aside0.mk hy177
             clear hy177
             have H' := Aside0.mk H
             clear H
             obtain ⟨Ao21, co21, eo21⟩ := Kd.R_slice HO_5.out
             subst eo21
             have p20 : 0 ≤ (x7_3 : Int) := of_decide_eq_true (by with_reducible assumption)
             have q20 : (x7_3 : Int) < ((x5_3.length : Int) : Int) := of_decide_eq_true (by with_reducible assumption)
             obtain ⟨go20, co20, eo20, gb20, gl20, cl20, HG20⟩ := Kd.R_form HO_5.out (by omega)
             (first | cases eo20 | (injection eo20 with ea_ en_ ec_; (first | subst ea_ | (injection ea_ with ea_; subst ea_)); subst ec_; clear en_))
             have GB20 := Aside0.mk gb20
             have GG20 := Aside0.mk HG20
             clear gb20 gl20 HG20
             obtain ⟨hx20_0, hf20_0⟩ := Kd.R_celln 0 HO_5.out (x7_3 : Int) p20 q20
             replace p20 := eq_true p20
             replace q20 := eq_true q20
             have HP22 := Kd.R_putg HO_5.out (x7_3 : Int) (-7000000000000000101)
             go_wp2_with (first | ((with_reducible refine gate_store (t := 2) (p := 44) rfl ?_); refine store_event (t := 2) (p := 44) (v := ?vo_w23) (w1 := (wr.setCell ⟨go20, (x7_3 : Int).toNat, none⟩ (.int .i64 (-7000000000000000101)))) ?hg ?ho ?hn ?hr ?_; (case ho => rfl); (case hg => rfl); (case hn => rfl); (case hr => first | (go_simp; done) | (go_simp; rfl)); intro w23 hw; have hg : wr.grownBy w23 (some go20) := (by rw [hw]; exact HP22.2); have hp_ : Kd.R (Kd.int .i64) 2 w23 w.heap.size (fun _ => True) (.slice (some ⟨go20, 0, none⟩) x5_3.length co21) y177 := (by rw [hw, Ny177.out]; exact HP22.1); clear HP22; have n0_ := Aside0.mk (hp_); have n1_ := Aside0.mk ((by rw [hw]; exact below_set (HB.out) GB20.out : Below w.heap.size w w23)); clear HO_5; clear HB; have HO_5 := n0_; have HB := n1_; clear n0_ n1_; clear hg hw hp_))
             go_roundg k3
             case measure => have := HJ2.out; have := HK2.out; have := HK3.out; omega
             case rel => exact ⟨(y177), (wrap64 (x7_3 + 1)), (by first | rfl | (simp; done) | (simp [*]; done)), (by first | exact H' | (simp only [hji7]; exact H') | (have H2_ := H'; simp only [← hji7] at H2_; exact H2_)), ⟨by have := HJ2.out; have := HK2.out; have := HK3.out; omega⟩, ⟨by (with_reducible repeat (first | apply rA | apply rN | apply rD)); exact HO_5.out⟩, ⟨by repeat (first | (with_reducible first | exact HB.out | apply lA | apply lN | apply lD) | exact HB.out)⟩⟩
            ·
             rw [if_neg c19] at H
             exact absurd H (by simp)
           ·
            rw [if_neg c18] at H
            have c18b0 : decide (x7_3 < (x5_3.length : Int)) = false := decide_eq_false c18
            clear c18
            by_cases c24 : 0 ≤ (l0.length : Int)
            ·
             rw [if_pos c24] at H
             have c24b0 := eq_true c24
             have c24b1 : decide (0 ≤ (l0.length : Int)) = true := decide_eq_true c24
             clear c24
             by_cases c25 : (l0.length : Int) ≤ (x5_3.length : Int)
             ·
              rw [if_pos c25] at H
              have c25b0 := eq_true c25
              have c25b1 : decide ((l0.length : Int) ≤ (x5_3.length : Int)) = true := decide_eq_true c25
              clear c25
              obtain rfl := Option.some.inj H
              simp only [Option.some.injEq, Prod.mk.injEq] at H
              obtain ⟨rfl⟩ := H
              obtain ⟨Ao26, co26, eo26⟩ := Kd.R_slice HO_5.out
              subst eo26
              have q27 : ((l0.length : Int) : Int) ≤ ((x5_3.length : Int) : Int) := of_decide_eq_true (by with_reducible assumption)
              obtain ⟨i027, hi027, _, hsz27, _⟩ := info_parts info2
              have hcut27 := cut_to (P := Try.prog) 40 2 .i64 Try.underlying40 hi027 Ao26 x5_3.length co26 (l0.length : Int) (of_decide_eq_true (by with_reducible assumption)) q27 (Kd.R_reads' HO_5.out).2.1
              rw [Int.toNat_natCast] at hcut27
              have qn_ : l0.length ≤ x5_3.length := Int.ofNat_le.1 q27
              replace q27 := eq_true q27
              go_wp2
              go_ret
              exact ⟨Ao26, co26, rfl, by (with_reducible repeat (first | apply Kd.R_alloc | apply Kd.R_drewN | apply Kd.R_drew)); exact HO_5.out, qn_, by repeat (first | (with_reducible first | exact HB.out | apply below_alloc | apply pw_below_drewN | apply below_drew1) | exact HB.out)⟩
             ·
              rw [if_neg c25] at H
              exact absurd H (by simp)
            ·
             rw [if_neg c24] at H
             exact absurd H (by simp)
     ·
      rw [if_neg c9] at H
      exact absurd H (by simp)
    ·
     rw [if_neg c8] at H
     exact absurd H (by simp)

def laws_intactInt64SF.T2 : Bool × List (List Nat × List Nat) := (true, [([], []), ([0], [0]), ([], []), ([2], [2]), ([1, 3], [1, 3]), ([4], [4]), ([5], [5]), ([5], [5]), ([6, 7, 5], [5, 6, 7]), ([5], [5]), ([5], [5]), ([9, 10, 5], [5, 9, 10]), ([8, 11, 5, 5], [5, 8, 11]), ([5, 12], [5, 12]), ([13, 12, 0, 1, 2, 3, 4, 5, 6, 7, 8, 9, 10, 11, 12, 13], [13])])
def laws_intactInt64SF.B2 : List Nat := [0, 1, 0, 4, 15, 31, 63, 63, 255, 63, 63, 1599, 4095, 8191, 16383]
theorem laws_intactInt64SF.tab2 : rtab .any (opsOf Try.f35 2) = laws_intactInt64SF.T2 := by kernel_rfl
theorem laws_intactInt64SF.bits2 : waitsOk laws_intactInt64SF.T2.2 laws_intactInt64SF.B2 = true := by kernel_rfl
set_option maxHeartbeats 8000000 in
set_option maxRecDepth 100000 in
theorem laws_intactInt64SF.calls (k n : Nat) (A0 : Option Addr) (c0 : Nat) (l0 : List Int) (A1 : Option Addr) (c1 : Nat) (l1 : List Int) (t : Int) (w : World) (hr0 : Kd.C (Kd.int .i64) w A0 l0.length l0) (hc0 : l0.length ≤ c0) (hr1 : Kd.C (Kd.int .i64) w A1 l1.length l1) (hc1 : l1.length ≤ c1)
    (h3 : laws_roomBehind.f (n : Int) = some t) (hn : n ≤ 1000000000000) (ht : 0 ≤ t) (ht' : t ≤ 1000000000000) (hl0 : (l0.length : Int) = n + t) (hl1 : (l1.length : Int) = n + t) (h10 : laws_eqInt64S.f k l0 l1 = some true) :
    Calls Try.prog 35 #[.slice A0 n c0, .slice A1 n c1] w fun e w' => e = .returned (.bool true) ∧ Below w.heap.size w w' := by
  have HR0 := Aside0.mk hr0
  have HC0 := Aside0.mk hc0
  have HR1 := Aside0.mk hr1
  have HC1 := Aside0.mk hc1
  have A3 := Aside0.mk h3
  have A10 := Aside0.mk h10
  have HB := Aside0.mk (Below.refl w.heap.size w)
  obtain ⟨i011, hi011, _, hsz11, _⟩ := info_parts info2
  have c4b0 : ((n : Int) == (n : Int)) = true := by simp
  have c4b1 : ((n : Int) != (n : Int)) = false := by simp
  have c4b2 : (n == n) = true := by simp
  have hw : wrap64 ((n : Int) + t) = n + t := by unfold wrap64; omega
  obtain ⟨ji5, hji5⟩ : ∃ j_ : Int, (n : Int) + t = j_ := ⟨_, rfl⟩
  rw [hji5] at hl0 hl1
  have hji5w : (IntKind.i64.wrap ((n : Int) + t)) = ji5 := (i64_w _).trans (hw.trans hji5)
  have j0 : 0 ≤ ji5 := by omega
  have hcut11 := cut_cap (P := Try.prog) 40 2 .i64 Try.underlying40 hi011 A0 n c0 ji5 j0 (by omega)
  have hcut12 := cut_cap (P := Try.prog) 40 2 .i64 Try.underlying40 hi011 A1 n c1 ji5 j0 (by omega)
  have z0 : ji5.toNat = l0.length := by omega
  have z1 : ji5.toNat = l1.length := by omega
  rw [z0] at hcut11
  rw [z1] at hcut12
  clear hr0 hc0 hr1 hc1 h3 h10 hn ht ht' hl0 hl1 hi011 hsz11 j0 hw z0 z1 hji5
  go_enter Try.func35, Try.ntmps35
  try go_wp2_with (first | ((with_reducible refine gate_callee (f := 78) rfl ?_); refine goesL_ (some 10) rfl rfl Try.func78 (by kernel_rfl) rfl #[.int .i64 (n : Int)] rfl (by (try simp only [List.map_toArray, List.map_cons, List.map_nil]); first | done | rfl | (simp only [List.length_drop, List.length_take]; rfl) | (go_simp; done) | (simp; done) | (simp; rfl)) ?_; (with_reducible refine (laws_roomBehind.calls (n : Int) t _ A3.out).mono ?_); rintro e w' ⟨rfl, ⟨nd, rfl⟩⟩; refine ⟨_, rfl, ?_⟩))
  have hb1 : Below w.heap.size w (w.drewN nd).drew := below_drew1 (pw_below_drewN (Below.refl _ _) nd)
  have n0_ := Aside0.mk hb1
  have n1_ := Aside0.mk (Kd.C_below HR0.out hb1)
  have n2_ := Aside0.mk (Kd.C_below HR1.out hb1)
  clear HB HR0 HR1 hb1
  have HB := n0_
  have HR0 := n1_
  have HR1 := n2_
  clear n0_ n1_ n2_
  refine start_ (n := 15) (S := fun w' => True) (ds := []) #[false, false, false, false, false, false, false, false, false, false, false, false, false, false, false] (by kernel_rfl) rfl rfl trivial (fun hHeld => ?_); refine with_tabW laws_intactInt64SF.tab2 laws_intactInt64SF.bits2 (fun HT_ HW_ => ?_)
  generalize (w.drewN nd).drew = w11 at HB HR0 HR1 hHeld ⊢
  refine pure_ (i := 0) (N := some 12) (v := ?_) (a' := ?_) #[true, false, false, false, false, false, false, false, false, false, false, false, false, false, false] rfl rfl (any_of HT_.out (by kernel_rfl)) (fun _ _ _ h => h) (Or.inl ⟨by rfl, ?_⟩) ?_ ?_
  rotate_left
  · intro w'
    go_simp
    first | with_reducible rfl | (rw [if_neg (by simp only [ByteArray.size_append, ByteArray.size_extract, decide_eq_true_eq, eq_iff_iff, iff_true, iff_false] at *; omega)]; try with_reducible rfl)
  rotate_left
  · simp only [Act.put, List.setIfInBounds_toArray, List.set_cons_zero, List.set_cons_succ, i64_w, i32_w]
    rfl
  refine pure_ (i := 1) (N := some 13) (v := ?_) (a' := ?_) #[true, true, false, false, false, false, false, false, false, false, false, false, false, false, false] rfl rfl (any_of HT_.out (by kernel_rfl)) (fun _ _ _ h => h) (Or.inl ⟨by rfl, ?_⟩) ?_ ?_
  rotate_left
  · intro w'
    go_simp
    first | with_reducible rfl | (rw [if_neg (by simp only [ByteArray.size_append, ByteArray.size_extract, decide_eq_true_eq, eq_iff_iff, iff_true, iff_false] at *; omega)]; try with_reducible rfl)
  rotate_left
  · simp only [Act.put, List.setIfInBounds_toArray, List.set_cons_zero, List.set_cons_succ, i64_w, i32_w]
    rfl
  refine pure_ (i := 2) (N := some 14) (v := ?_) (a' := ?_) #[true, true, true, false, false, false, false, false, false, false, false, false, false, false, false] rfl rfl (any_of HT_.out (by kernel_rfl)) (fun _ _ _ h => h) (Or.inl ⟨by rfl, ?_⟩) ?_ ?_
  rotate_left
  · intro w'
    go_simp
    first | with_reducible rfl | (rw [if_neg (by simp only [ByteArray.size_append, ByteArray.size_extract, decide_eq_true_eq, eq_iff_iff, iff_true, iff_false] at *; omega)]; try with_reducible rfl)
  rotate_left
  · simp only [Act.put, List.setIfInBounds_toArray, List.set_cons_zero, List.set_cons_succ, i64_w, i32_w]
    rfl
  refine pure_ (i := 3) (N := some 15) (v := ?_) (a' := ?_) #[true, true, true, true, false, false, false, false, false, false, false, false, false, false, false] rfl rfl (any_of HT_.out (by kernel_rfl)) (fun _ _ _ h => h) (Or.inl ⟨by rfl, ?_⟩) ?_ ?_
  rotate_left
  · intro w'
    go_simp
    first | with_reducible rfl | (rw [if_neg (by simp only [ByteArray.size_append, ByteArray.size_extract, decide_eq_true_eq, eq_iff_iff, iff_true, iff_false] at *; omega)]; try with_reducible rfl)
  rotate_left
  · simp only [Act.put, List.setIfInBounds_toArray, List.set_cons_zero, List.set_cons_succ, i64_w, i32_w]
    rfl
  refine pure_ (i := 4) (N := some 16) (v := ?_) (a' := ?_) #[true, true, true, true, true, false, false, false, false, false, false, false, false, false, false] rfl rfl (any_of HT_.out (by kernel_rfl)) (fun _ _ _ h => h) (Or.inl ⟨by rfl, ?_⟩) ?_ ?_
  rotate_left
  · intro w'
    go_simp
    first | with_reducible rfl | (rw [if_neg (by simp only [ByteArray.size_append, ByteArray.size_extract, decide_eq_true_eq, eq_iff_iff, iff_true, iff_false] at *; omega)]; try with_reducible rfl)
  rotate_left
  · simp only [Act.put, List.setIfInBounds_toArray, List.set_cons_zero, List.set_cons_succ, i64_w, i32_w]
    rfl
  refine pure_ (i := 5) (N := some 17) (v := ?_) (a' := ?_) #[true, true, true, true, true, true, false, false, false, false, false, false, false, false, false] rfl rfl (any_of HT_.out (by kernel_rfl)) (fun _ _ _ h => h) (Or.inl ⟨by rfl, ?_⟩) ?_ ?_
  rotate_left
  · intro w'
    go_simp
    first | with_reducible rfl | (rw [if_neg (by simp only [ByteArray.size_append, ByteArray.size_extract, decide_eq_true_eq, eq_iff_iff, iff_true, iff_false] at *; omega)]; try with_reducible rfl)
  rotate_left
  · simp only [Act.put, List.setIfInBounds_toArray, List.set_cons_zero, List.set_cons_succ, i64_w, i32_w]
    rfl
  refine pure_ (i := 6) (N := some 18) (v := ?_) (a' := ?_) #[true, true, true, true, true, true, true, false, false, false, false, false, false, false, false] rfl rfl (any_of HT_.out (by kernel_rfl)) (fun _ _ _ h => h) (Or.inl ⟨by rfl, ?_⟩) ?_ ?_
  rotate_left
  · intro w'
    go_simp
    first | with_reducible rfl | (rw [if_neg (by simp only [ByteArray.size_append, ByteArray.size_extract, decide_eq_true_eq, eq_iff_iff, iff_true, iff_false] at *; omega)]; try with_reducible rfl)
  rotate_left
  · simp only [Act.put, List.setIfInBounds_toArray, List.set_cons_zero, List.set_cons_succ, i64_w, i32_w]
    rfl
  refine pure_ (i := 7) (N := some 19) (v := ?_) (a' := ?_) #[true, true, true, true, true, true, true, true, false, false, false, false, false, false, false] rfl rfl (any_of HT_.out (by kernel_rfl)) (fun _ _ _ h => h) (Or.inl ⟨by rfl, ?_⟩) ?_ ?_
  rotate_left
  · intro w'
    go_simp
    first | with_reducible rfl | (rw [if_neg (by simp only [ByteArray.size_append, ByteArray.size_extract, decide_eq_true_eq, eq_iff_iff, iff_true, iff_false] at *; omega)]; try with_reducible rfl)
  rotate_left
  · simp only [Act.put, List.setIfInBounds_toArray, List.set_cons_zero, List.set_cons_succ, i64_w, i32_w]
    rfl
  refine pure_ (i := 8) (N := some 20) (v := ?_) (a' := ?_) #[true, true, true, true, true, true, true, true, true, false, false, false, false, false, false] rfl rfl (any_of HT_.out (by kernel_rfl)) (fun _ _ _ h => h) (Or.inl ⟨by rfl, ?_⟩) ?_ ?_
  rotate_left
  · intro w'
    go_simp
    first | with_reducible rfl | (rw [if_neg (by simp only [ByteArray.size_append, ByteArray.size_extract, decide_eq_true_eq, eq_iff_iff, iff_true, iff_false] at *; omega)]; try with_reducible rfl)
  rotate_left
  · simp only [Act.put, List.setIfInBounds_toArray, List.set_cons_zero, List.set_cons_succ, i64_w, i32_w]
    rfl
  refine pure_ (i := 9) (N := some 21) (v := ?_) (a' := ?_) #[true, true, true, true, true, true, true, true, true, true, false, false, false, false, false] rfl rfl (any_of HT_.out (by kernel_rfl)) (fun _ _ _ h => h) (Or.inl ⟨by rfl, ?_⟩) ?_ ?_
  rotate_left
  · intro w'
    go_simp
    first | with_reducible rfl | (rw [if_neg (by simp only [ByteArray.size_append, ByteArray.size_extract, decide_eq_true_eq, eq_iff_iff, iff_true, iff_false] at *; omega)]; try with_reducible rfl)
  rotate_left
  · simp only [Act.put, List.setIfInBounds_toArray, List.set_cons_zero, List.set_cons_succ, i64_w, i32_w]
    rfl
  refine pure_ (i := 10) (N := some 22) (v := ?_) (a' := ?_) #[true, true, true, true, true, true, true, true, true, true, true, false, false, false, false] rfl rfl (any_of HT_.out (by kernel_rfl)) (fun _ _ _ h => h) (Or.inl ⟨by rfl, ?_⟩) ?_ ?_
  rotate_left
  · intro w'
    go_simp
    first | with_reducible rfl | (rw [if_neg (by simp only [ByteArray.size_append, ByteArray.size_extract, decide_eq_true_eq, eq_iff_iff, iff_true, iff_false] at *; omega)]; try with_reducible rfl)
  rotate_left
  · simp only [Act.put, List.setIfInBounds_toArray, List.set_cons_zero, List.set_cons_succ, i64_w, i32_w]
    rfl
  refine pure_ (i := 11) (N := some 23) (v := ?_) (a' := ?_) #[true, true, true, true, true, true, true, true, true, true, true, true, false, false, false] rfl rfl (any_of HT_.out (by kernel_rfl)) (fun _ _ _ h => h) (Or.inl ⟨by rfl, ?_⟩) ?_ ?_
  rotate_left
  · intro w'
    go_simp
    first | with_reducible rfl | (rw [if_neg (by simp only [ByteArray.size_append, ByteArray.size_extract, decide_eq_true_eq, eq_iff_iff, iff_true, iff_false] at *; omega)]; try with_reducible rfl)
  rotate_left
  · simp only [Act.put, List.setIfInBounds_toArray, List.set_cons_zero, List.set_cons_succ, i64_w, i32_w]
    rfl
  refine one_ (i := 12) (N := some 24) #[true, true, true, true, true, true, true, true, true, true, true, true, true, false, false] rfl rfl (one_of HT_.out (by kernel_rfl)) (by decide) (fun K hK => ?_)
  refine goes_ Try.func33 (by kernel_rfl) rfl #[.slice A0 l0.length c0, .slice A1 l1.length c1] (by rfl) rfl rfl (by (try simp only [List.map_toArray, List.map_cons, List.map_nil]); first | done | rfl | (simp only [List.length_drop, List.length_take]; rfl) | (go_simp; done) | (simp; done) | (simp; rfl)) ?_
  with_reducible refine (laws_eqInt64S.calls k _ _ l0 _ _ l1 true _ ?side1 ?side2 ?side3 ?side4 A10.out).mono ?_
  (case side1 => repeat (first | exact HR0.out | (with_reducible refine Kd.C_alloc ?_ _) | (with_reducible refine Kd.C_drewN ?_ _) | (with_reducible refine Kd.C_drew ?_)))
  (case side2 => exact HC0.out)
  (case side3 => repeat (first | exact HR1.out | (with_reducible refine Kd.C_alloc ?_ _) | (with_reducible refine Kd.C_drewN ?_ _) | (with_reducible refine Kd.C_drew ?_)))
  (case side4 => exact HC1.out)
  rintro e w14 ⟨rfl, ⟨nd2, hw14⟩⟩
  have hb : Below w11.heap.size w11 w14 := by rw [hw14]; exact pw_below_drewN (Below.refl _ _) nd2
  refine ⟨_, rfl, ?_⟩
  have n0_ := Aside0.mk (below_step (by repeat (first | (with_reducible first | exact HB.out | apply below_alloc | apply pw_below_drewN | apply below_drew1) | exact HB.out)) hb)
  clear HB
  have HB := n0_
  clear n0_
  clear hb
  refine hK.out _ _ trivial (fun hHeld => ?_)
  clear hK K
  refine norm_ (a' := ?_) ?_ ?_
  rotate_left
  · show Act.put _ (some 24) _ = _
    simp only [Act.put, List.setIfInBounds_toArray, List.set_cons_zero, List.set_cons_succ, i64_w, i32_w]
    rfl
  refine pure_ (i := 13) (N := some 25) (v := ?_) (a' := ?_) #[true, true, true, true, true, true, true, true, true, true, true, true, true, true, false] rfl rfl (any_of HT_.out (by kernel_rfl)) (fun _ _ _ h => h) (Or.inl ⟨by rfl, ?_⟩) ?_ ?_
  rotate_left
  · intro w'
    go_simp
    first | with_reducible rfl | (rw [if_neg (by simp only [ByteArray.size_append, ByteArray.size_extract, decide_eq_true_eq, eq_iff_iff, iff_true, iff_false] at *; omega)]; try with_reducible rfl)
  rotate_left
  · simp only [Act.put, List.setIfInBounds_toArray, List.set_cons_zero, List.set_cons_succ, i64_w, i32_w]
    rfl
  refine pure_ (i := 14) (N := some 4) (v := ?_) (a' := ?_) #[true, true, true, true, true, true, true, true, true, true, true, true, true, true, true] rfl rfl (any_of HT_.out (by kernel_rfl)) (fun _ _ _ h => h) (Or.inl ⟨by rfl, ?_⟩) ?_ ?_
  rotate_left
  · intro w'
    go_simp
    first | with_reducible rfl | (rw [if_neg (by simp only [ByteArray.size_append, ByteArray.size_extract, decide_eq_true_eq, eq_iff_iff, iff_true, iff_false] at *; omega)]; try with_reducible rfl)
  rotate_left
  · simp only [Act.put, List.setIfInBounds_toArray, List.set_cons_zero, List.set_cons_succ, i64_w, i32_w]
    rfl
  refine done_ (done_of HT_.out (by kernel_rfl)) ?_
  try go_wp2
  go_ret
  exact ⟨by first | rfl | (simp [errW_none, errW_some] <;> rfl) | (simp [*, errW_none, errW_some] <;> rfl), by repeat (first | (with_reducible first | exact HB.out | apply below_alloc | apply pw_below_drewN | apply below_drew1) | exact HB.out)⟩

end Go.Proofs.Ytmepklccbogibaa.HandFnExactMixedGroups
