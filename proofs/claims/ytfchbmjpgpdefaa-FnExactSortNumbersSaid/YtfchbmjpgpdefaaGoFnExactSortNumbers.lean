/- SortNumbers answers what the reference's answers, for all arguments; no condition. -/
import Derived.Test.YtfchbmjpgpdefaaMa
import Derived.Test.YtfchbmjpgpdefaaQFnExactSortNumbersx
import Derived.Test.YtfchbmjpgpdefaaHandFnExactSortNumbers
namespace Go.Proofs.Ytfchbmjpgpdefaa.GoFnExactSortNumbers
open Go.RowKit Go.Proofs.Ytfchbmjpgpdefaa.QFnExactSortNumbers Go.Proofs.YtfchbmjpgpdefaaW.PrintWords Go.Proofs.YtfchbmjpgpdefaaW.PrintLast Go.Proofs.Ytfchbmjpgpdefaa.Ma Go.Proofs.Ytfchbmjpgpdefaa.HandFnExactSortNumbers
set_option linter.unusedVariables false
set_option linter.unusedSimpArgs false

/-! ### division, ranges -/
theorem in_eq (a b c : Int) : spec_l01In.f a b c = some (decide (b ≤ a ∧ a ≤ c)) := by
  unfold spec_l01In.f
  by_cases h : b ≤ a <;> simp [h]
theorem within_eq (a b c : Int) : impl_within.f a b c = some (decide (b ≤ a ∧ a ≤ c)) := by
  unfold impl_within.f
  by_cases h : b ≤ a <;> simp [h]
theorem tdiv_floor {a b : Int} (hb : 0 < b) : (Int.tmod a b < 0 → Int.tdiv a b - 1 = a / b) ∧ (¬ Int.tmod a b < 0 → Int.tdiv a b = a / b) := by
  have h1 := Int.tdiv_eq_ediv (a := a) (b := b)
  have h2 := Int.tmod_eq_emod (a := a) (b := b)
  have h3 := Int.emod_nonneg a (show b ≠ 0 by omega)
  have h4 := Int.emod_lt_of_pos a hb
  by_cases h : 0 ≤ a ∨ b ∣ a
  · rw [if_pos h] at h1 h2
    omega
  · rw [if_neg h] at h1 h2
    rw [Int.sign_eq_one_of_pos hb] at h1
    omega
theorem ediv_small {a b : Int} (hb : 0 < b) (h : -4611686018427387904 ≤ a) (h' : a ≤ 4611686018427387904) : -4611686018427387904 ≤ a / b ∧ a / b ≤ 4611686018427387904 := by
  have h1 : -4611686018427387904 * b ≤ a := by
    have := Int.mul_le_mul_of_nonneg_left (show 1 ≤ b by omega) (show (0 : Int) ≤ 4611686018427387904 by omega); omega
  have h2 : a < (4611686018427387904 + 1) * b := by
    have := Int.mul_le_mul_of_nonneg_left (show 1 ≤ b by omega) (show (0 : Int) ≤ 4611686018427387905 by omega); omega
  have h3 := (Int.le_ediv_iff_mul_le hb).2 h1
  have h4 := (Int.ediv_lt_iff_lt_mul hb).2 h2
  omega
/-! ### sorting -/
theorem rd_mid (A B : List Int) (x : Int) : rd (A ++ x :: B) (A.length : Int) = x := by
  unfold rd; simp
theorem rd_last (A B : List Int) (y x : Int) : rd ((A ++ [y]) ++ x :: B) (((A ++ [y]).length : Int) - 1) = y := by
  unfold rd
  rw [show (((A ++ [y]).length : Int) - 1).toNat = A.length by simp]
  simp
theorem asc_le {A B : List Int} {y : Int} (h : Asc (A ++ y :: B)) : (∀ z ∈ A, z ≤ y) ∧ (∀ z ∈ B, y ≤ z) := by
  unfold Asc at h
  rw [List.pairwise_append, List.pairwise_cons] at h
  exact ⟨fun z hz => h.2.2 z hz y (by simp), fun z hz => h.2.1.1 z hz⟩
theorem impl_sorted_l1 (N : Int) (S C r : List Int) (x : Int) (i : Nat) (hS : Asc S) (hN : S.length + 1 + C.length ≤ 4611686018427387904) (hr : Ev (fun k => impl_sorted.l0 k (ins x S ++ C) N (wrap64 ((i : Int) + 1))) r) :
    ∀ (n : Nat) (A B : List Int), A.length = n → A ++ B = S → (∀ y, B.head? = some y → x < y) → Ev (fun k => impl_sorted.l1 k (A ++ x :: (B ++ C)) (A.length : Int) N (i : Int)) r := by
  intro n
  induction n with
  | zero =>
    intro A B hA hAB hB
    have hA : A = [] := List.length_eq_zero_iff.1 hA
    subst hA
    refine Ev.step (fun k => impl_sorted.l1.eq_2 ..) (ev_neg (by simp) ?_)
    have e : ins x S = x :: B := by
      have := ins_split x [] B (by simp) hB
      rw [← hAB]; simpa using this
    rw [e] at hr
    simpa using hr
  | succ n ih =>
    intro A B hA hAB hB
    obtain ⟨A', y, rfl⟩ : ∃ A' y, A = A' ++ [y] := ⟨A.dropLast, A.getLast (by intro h; simp [h] at hA), (List.dropLast_concat_getLast _).symm⟩
    simp only [List.length_append, List.length_singleton] at hA
    have hl : (A' ++ [y]).length = n + 1 := by simp; omega
    have hlen : ((A' ++ [y]) ++ x :: (B ++ C)).length = S.length + 1 + C.length := by rw [← hAB]; simp; omega
    have hSl : S.length = (A' ++ [y]).length + B.length := by rw [← hAB, List.length_append]
    have hnb : (n : Int) + 1 ≤ 4611686018427387904 := by omega
    have e1 : wrap64 (((A' ++ [y]).length : Int) - 1) = ((A' ++ [y]).length : Int) - 1 := w64 (by omega) (by omega)
    refine Ev.step (fun k => impl_sorted.l1.eq_2 ..) (ev_pos (by omega) ?_)
    rw [e1]
    refine ev_pos (by omega) (ev_pos (by rw [hlen]; omega) (ev_pos (by omega) (ev_pos (by rw [hlen]; omega) ?_)))
    rw [rd_last, rd_mid]
    by_cases g : y > x
    · refine ev_pos g ?_
      have e2 : (((A' ++ [y]) ++ x :: (B ++ C)).set ((A' ++ [y]).length : Int).toNat y).set (((A' ++ [y]).length : Int) - 1).toNat x = A' ++ x :: ((y :: B) ++ C) := by
        rw [show (((A' ++ [y]).length : Int) - 1).toNat = A'.length by simp, Int.toNat_natCast, List.set_append_right _ _ (by simp)]
        simp
      rw [e2]
      have e3 : ((A' ++ [y]).length : Int) - 1 = (A'.length : Int) := by simp
      rw [e3]
      exact ih A' (y :: B) (by omega) (by rw [← hAB]; simp) (by intro z hz; simp at hz; omega)
    · refine ev_neg g ?_
      have e : ins x S = (A' ++ [y]) ++ x :: B := by
        rw [← hAB]
        refine ins_split x _ B ?_ hB
        rw [← hAB] at hS
        have h1 := asc_le (A := A') (y := y) (B := B) (by simpa using hS)
        intro z hz
        rcases List.mem_append.1 hz with hz | hz
        · have := h1.1 z hz; omega
        · simp at hz; omega
      rw [e] at hr
      simpa using hr
theorem impl_sorted_l0 (l : List Int) (hl : l.length ≤ 1000000000) : ∀ (R : List Int) (i : Nat), l.drop i = R → Ev (fun k => impl_sorted.l0 k (srt (l.take i) ++ R) (l.length : Int) (i : Int)) (srt l) := by
  intro R
  induction R with
  | nil =>
    intro i h
    have := drop_nil h
    refine Ev.step (fun k => impl_sorted.l0.eq_2 ..) (ev_neg (by omega) (ev_ret ?_))
    rw [List.take_of_length_le this]; simp
  | cons c R ih =>
    intro i h
    obtain ⟨h1, h2, h3⟩ := rd_drop h
    have hs := snoc_take h
    have e := ih (i + 1) h3
    rw [hs, srt_snoc] at e
    have hlen : (srt (l.take i)).length = i := by rw [(srt_perm _).length_eq, List.length_take]; omega
    have hR : R.length + i + 1 = l.length := by have := congrArg List.length h; simp at this; omega
    refine Ev.step (fun k => impl_sorted.l0.eq_2 ..) (ev_pos (by omega) ?_)
    have := impl_sorted_l1 (l.length : Int) (srt (l.take i)) R (srt l) c i (srt_asc _) (by omega) (by rw [w64 (by omega) (by omega)]; exact e) i (srt (l.take i)) [] hlen (by simp) (by simp)
    rw [hlen] at this
    simpa using this
theorem impl_sorted_ev (l : List Int) (hl : l.length ≤ 1000000000) : Ev (fun k => impl_sorted.f k l) (srt l) := by
  have h := impl_sorted_l0 l hl l 0 rfl
  have e : impl_copyList.f l = some l := by
    unfold impl_copyList.f
    simp only [Option.bind_some, List.length_nil, Nat.zero_add, List.nil_append]
    rw [if_pos (by omega)]
  exact ev_bind0 e h
def valB (l : List Int) : Bool := decide (∀ n ∈ l, -1000000000000 ≤ n ∧ n ≤ 1000000000000)
theorem impl_areValues_l0 (l : List Int) (hl : l.length ≤ 4611686018427387904) : ∀ (R : List Int) (i : Nat), l.drop i = R → Ev (fun k => impl_areValues.l0 k l (l.length : Int) i) (valB R) := by
  intro R
  induction R with
  | nil =>
    intro i h
    have := drop_nil h
    exact Ev.step (fun k => impl_areValues.l0.eq_2 ..) (ev_neg (by omega) (ev_ret (by simp [valB])))
  | cons n R ih =>
    intro i h
    obtain ⟨h1, h2, h3⟩ := rd_drop h
    refine Ev.step (fun k => impl_areValues.l0.eq_2 ..) (ev_pos (by omega) (ev_pos (by omega) (ev_pos (by omega) ?_)))
    rw [h2, w64 (n := (i : Int) + 1) (by omega) (by omega)]
    have e : impl_isValue.f n = some (decide (-1000000000000 ≤ n ∧ n ≤ 1000000000000)) := by unfold impl_isValue.f; rw [within_eq]; rfl
    refine ev_bind0 e ?_
    by_cases g : -1000000000000 ≤ n ∧ n ≤ 1000000000000
    · refine ev_pos (by simpa using g) ?_
      have e : valB (n :: R) = valB R := by unfold valB; refine decide_eq_decide.2 ?_; simp [g]
      rw [e]; exact ih (i + 1) h3
    · exact ev_neg (by simpa using g) (ev_ret (by symm; exact decide_eq_false (fun h => g (h n (by simp)))))
theorem spec_l01Values_l0 (l : List Int) (hl : l.length ≤ 4611686018427387904) : ∀ (R : List Int) (i : Nat), l.drop i = R → Ev (fun k => spec_l01Values.l0 k l i) (if valB R = true then (if (l.length : Int) > 60 then 3 else 0) else 2) := by
  intro R
  induction R with
  | nil =>
    intro i h
    have := drop_nil h
    refine Ev.step (fun k => spec_l01Values.l0.eq_2 ..) (ev_neg (by omega) ?_)
    have ev : valB ([] : List Int) = true := by simp [valB]
    rw [ev, if_pos rfl]
    by_cases g : (l.length : Int) > 60
    · exact ev_pos g (ev_ret (by rw [if_pos g]))
    · exact ev_neg g (ev_ret (by rw [if_neg g]))
  | cons n R ih =>
    intro i h
    obtain ⟨h1, h2, h3⟩ := rd_drop h
    refine Ev.step (fun k => spec_l01Values.l0.eq_2 ..) (ev_pos (by omega) (ev_pos (by omega) ?_))
    rw [h2, w64 (n := (i : Int) + 1) (by omega) (by omega)]
    have e : spec_l01Is.f n = some (decide (-1000000000000 ≤ n ∧ n ≤ 1000000000000)) := by unfold spec_l01Is.f; rw [in_eq]; rfl
    refine ev_bind0 e ?_
    by_cases g : -1000000000000 ≤ n ∧ n ≤ 1000000000000
    · refine ev_pos (by simpa using g) ?_
      have e : valB (n :: R) = valB R := by unfold valB; refine decide_eq_decide.2 ?_; simp [g]
      rw [e]; exact ih (i + 1) h3
    · refine ev_neg (by simpa using g) (ev_ret ?_)
      have e : valB (n :: R) = false := decide_eq_false (fun h => g (h n (by simp)))
      rw [e]; rfl
def sortT (l : List Int) : Int := if valB l = true then (if (l.length : Int) > 60 then 3 else 0) else 2
def sortM (l : List Int) : List Int := if sortT l = 0 then srt l else []
theorem sortT_zero {l : List Int} (h : sortT l = 0) : valB l = true ∧ l.length ≤ 60 := by
  unfold sortT at h
  split at h
  · split at h
    · omega
    · exact ⟨by assumption, by omega⟩
  · omega
theorem spec_l01Values_ev (l : List Int) (hl : l.length ≤ 4611686018427387904) : Ev (fun k => spec_l01Values.f k l) (sortT l) := spec_l01Values_l0 l hl l 0 rfl
theorem impl_SortNumbers_ev (l : List Int) (hl : l.length ≤ 1000000000) : Ev (fun k => impl_SortNumbers.f k l) (sortM l, sortT l) := by
  have e : Ev (fun k => impl_areValues.f k l) (valB l) := impl_areValues_l0 l (by omega) l 0 rfl
  refine e.bind ?_
  unfold sortM sortT
  by_cases a : valB l = true
  · refine ev_pos a ?_
    by_cases b : (l.length : Int) > 60
    · exact ev_pos b (ev_ret (by rw [if_pos a, if_pos b]; rfl))
    · exact ev_neg b ((impl_sorted_ev l hl).bind (ev_ret (by rw [if_pos a, if_neg b]; rfl)))
  · exact ev_neg a (ev_ret (by rw [if_neg a]; rfl))

theorem drawn_below {w w' : World} (h : Drawn0 w w') : Below w.heap.size w w' := by
  obtain ⟨n, rfl⟩ := h
  exact pw_below_drewN (Below.refl _ _) n

/-! ### spec.SortNumbers -/
mutual
def sortS0 : Nat → List Int → List Int → Int → Option (List Int)
  | 0, _, _, _ => none
  | k + 1, l, out, i => if i < (l.length : Int) then sortS1 k l out i 0 else some out
def sortS1 : Nat → List Int → List Int → Int → Int → Option (List Int)
  | 0, _, _, _, _ => none
  | k + 1, l, out, i, at_ => if at_ < (out.length : Int) then (if 0 ≤ at_ ∧ 0 ≤ i ∧ i < (l.length : Int) then (if rd out at_ ≤ rd l i then sortS1 k l out i (wrap64 (at_ + 1)) else (if 0 ≤ at_ ∧ at_ ≤ (out.length : Int) ∧ 0 ≤ i ∧ i < (l.length : Int) ∧ out.length + 1 < 17592186044416 then sortS0 k l ([] ++ out.take at_.toNat ++ [rd l i] ++ out.drop at_.toNat) (wrap64 (i + 1)) else none)) else none) else (if 0 ≤ at_ ∧ at_ ≤ (out.length : Int) ∧ 0 ≤ i ∧ i < (l.length : Int) ∧ out.length + 1 < 17592186044416 then sortS0 k l ([] ++ out.take at_.toNat ++ [rd l i] ++ out.drop at_.toNat) (wrap64 (i + 1)) else none)
end
theorem world_any {P : Program} {c : Code} {Q : Exit → Act → World → Prop} {a : Act} {W : World} (F : World → Prop) (h : F W) (g : ∀ W, F W → Code.wp P c Q a W) : Code.wp P c Q a W := g W h
theorem ne_later {α : Type} {d : Kd α} {e base : Nat} {ok : Nat → Prop} {w : World} {u v : Value} {xs : List α} (h : d.R e w base ok u xs) (hn : ∃ b, v.ownBlock = some b ∧ w.heap.size ≤ b) : ∀ k, v.ownBlock = some k → some k ≠ u.ownBlock := by
  intro k hk he
  obtain ⟨b, hb, hle⟩ := hn
  have := ((Kd.R_bound h).1 k he.symm).2.2.1
  rw [hb] at hk; injection hk with hk; omega
theorem ne_earlier {α : Type} {d : Kd α} {e base : Nat} {ok : Nat → Prop} {w : World} {u v : Value} {xs : List α} (h : d.R e w base ok u xs) (hn : ∃ b, v.ownBlock = some b ∧ w.heap.size ≤ b) : ∀ k, u.ownBlock = some k → some k ≠ v.ownBlock := by
  intro k hk he
  obtain ⟨b, hb, hle⟩ := hn
  have := ((Kd.R_bound h).1 k hk).2.2.1
  rw [hb] at he; injection he with he; omega
def sortR.T : Bool × List (List Nat × List Nat) := (true, [([], []), ([], []), ([], []), ([1, 2], [1, 2]), ([0, 3], [0, 3]), ([], []), ([], []), ([5, 6], [5, 6]), ([7], [7]), ([8], [8]), ([4, 9, 4], [4, 9]), ([], []), ([], []), ([11, 12], [11, 12]), ([10, 13, 10], [10, 13]), ([14, 14, 0, 1, 2, 3, 4, 5, 6, 7, 8, 9, 10, 11, 12, 13, 14], [1, 11, 14])])
def sortR.B : List Nat := [0, 0, 0, 6, 15, 0, 0, 96, 224, 480, 1023, 0, 0, 6144, 16383, 32767]
theorem sortR.tab : rtab .any (opsOf Try.f5 11) = sortR.T := by kernel_rfl
theorem sortR.bits : waitsOk sortR.T.2 sortR.B = true := by kernel_rfl
set_option maxHeartbeats 8000000 in
set_option maxRecDepth 100000 in
theorem spec_SortNumbers_ok (k : Nat) (A0 : Option Addr) (c0 : Nat) (l0 r : List Int) (w : World) (hr0 : Kd.C (Kd.int .i64) w A0 l0.length l0) (hc0 : l0.length ≤ c0) (hlen : l0.length ≤ 1000000) (hv : spec_l01Values.f k l0 = some 0) (H0 : sortS0 k l0 [] 0 = some r) :
    Calls Try.prog 5 #[.slice A0 l0.length c0] w fun e w' => ∃ v0_ : Value, e = .returned (.tuple #[v0_, .int .i64 0]) ∧ Kd.R (Kd.int .i64) 2 w' w.heap.size (fun _ => True) v0_ r ∧ Below w.heap.size w w' := by
  have HR0 := Aside0.mk hr0
  have HC0 := Aside0.mk hc0
  have A2 := Aside0.mk hv
  have HB := Aside0.mk (Below.refl w.heap.size w)
  have H' := Aside0.mk H0
  obtain ⟨i02, hi2, _, hsz2, _⟩ := info_parts info2
  clear hr0 hc0 hv H0
  go_enter Try.func5, Try.ntmps5
  go_wp2_with (first | ((with_reducible refine gate_callee (f := 20) rfl ?_); refine goesL_ (some 9) rfl rfl Try.func20 (by kernel_rfl) rfl #[.slice A0 l0.length c0] rfl (by (try simp only [List.map_toArray, List.map_cons, List.map_nil]); first | done | rfl | (simp only [List.length_drop, List.length_take]; rfl) | (go_simp; done) | (simp; done) | (simp; rfl)) ?_; (with_reducible refine (spec_l01Values.calls k _ _ l0 0 _ ?side1 ?side2 A2.out).mono ?_); (case side1 => repeat (first | exact (Kd.C_below HR0.out (by repeat (first | (with_reducible first | exact HB.out | apply below_alloc | apply pw_below_drewN | apply below_drew1) | exact HB.out))) | (with_reducible refine Kd.C_alloc ?_ _) | (with_reducible refine Kd.C_drewN ?_ _) | (with_reducible refine Kd.C_drew ?_))); (case side2 => exact HC0.out); rintro e w2 ⟨rfl, hd⟩; have hb := drawn_below hd; clear hd; refine ⟨_, rfl, ?_⟩; have nb_ := Aside0.mk (below_step (by repeat (first | (with_reducible first | exact HB.out | apply below_alloc | apply pw_below_drewN | apply below_drew1) | exact HB.out)) hb); clear HB; have HB := nb_; clear nb_ hb) | ((with_reducible refine gate_dst (N := 13) rfl ?_); refine Kd.R_lit (Kd.int .i64) _ 2 ?hg (N := 13) ?hd (xs := ([] : List Int)) (inner := []) (ok := fun _ => True) (okp := fun _ => True) ?hr ?hp (fun _ hk => hk) trivial (Below.refl _ _) (Nat.le_refl _) (by simp) ?_; (case hd => rfl); (case hg => rfl); (case hr => first | (go_simp; done) | (go_simp; rfl)); (case hp => exact (Reps.none _ _)); intro v13 w3 ho4 hb hg_ hnew_; clear hg_ hnew_; obtain ⟨A5_0, c5_0, e5_0⟩ := Kd.R_slice ho4; subst e5_0; have n0_ := Aside0.mk (Kd.R_lower ho4 (below_size (by repeat (first | (with_reducible first | exact HB.out | apply below_alloc | apply pw_below_drewN | apply below_drew1) | exact HB.out)))); have n1_ := Aside0.mk (below_step (by repeat (first | (with_reducible first | exact HB.out | apply below_alloc | apply pw_below_drewN | apply below_drew1) | exact HB.out)) hb); clear HB; have HO := n0_; have HB := n1_; clear n0_ n1_; clear hb ho4))
  go_loopg [5, 6] k (fun kq v5 v6 w' => ∃ (out1 : List Int) (A5 : Option Addr) (c5 : Nat) (x6_1 : Int), v5 = .slice A5 out1.length c5 ∧ v6 = .int .i64 x6_1 ∧ Aside0 (sortS0 kq l0 out1 x6_1 = some r) ∧ Aside0 (kq ≤ k) ∧ Aside0 (Kd.R (Kd.int .i64) 2 w' w.heap.size (fun _ => True) (.slice A5 out1.length c5) out1) ∧ Aside0 (Below w.heap.size w w'))
  case atStart => exact ⟨[], A5_0, c5_0, 0, (by first | rfl | (simp; done) | (simp [*]; done)), (by first | rfl | (simp; done) | (simp [*]; done)), H', ⟨Nat.le_refl _⟩, ⟨(by (with_reducible repeat (first | apply Kd.R_alloc | apply Kd.R_drewN | apply Kd.R_drew)); exact HO.out)⟩, ⟨by repeat (first | (with_reducible first | exact HB.out | apply below_alloc | apply pw_below_drewN | apply below_drew1) | exact HB.out)⟩⟩
  case round =>
    clear H' HO HB
    obtain ⟨out1, A5, c5, x6_1, rfl, rfl, HA, HK1, HO, HB⟩ := hrel
    cases gk with
    | zero => exact absurd HA.out (by simp [sortS0])
    | succ k1 =>
      have H := HA.out
      clear HA
      simp only [sortS0] at H
      by_cases c6 : x6_1 < (l0.length : Int)
      · rw [if_pos c6] at H
        have c6b0 : decide (x6_1 < (l0.length : Int)) = true := decide_eq_true c6
        clear c6
        have H' := Aside0.mk H
        clear H
        go_wp2
        repeat (go_quiet (fail); try go_wp2)
        go_loopg [7] k1 (fun kq v7 w' => ∃ (x7_1 : Int), v7 = .int .i64 x7_1 ∧ Aside0 (sortS1 kq l0 out1 x6_1 x7_1 = some r) ∧ Aside0 (kq ≤ k1) ∧ Aside0 (Kd.R (Kd.int .i64) 2 w' w.heap.size (fun _ => True) (.slice A5 out1.length c5) out1) ∧ Aside0 (Below w.heap.size w w'))
        case atStart => exact ⟨0, (by first | rfl | (simp; done) | (simp [*]; done)), H', ⟨Nat.le_refl _⟩, ⟨(by (with_reducible repeat (first | apply Kd.R_alloc | apply Kd.R_drewN | apply Kd.R_drew)); exact HO.out)⟩, ⟨by repeat (first | (with_reducible first | exact HB.out | apply below_alloc | apply pw_below_drewN | apply below_drew1) | exact HB.out)⟩⟩
        case round =>
          clear H' HO HB
          try clear c6b0
          obtain ⟨x7_1, rfl, HA, HK2, HO, HB⟩ := hrel
          have hcap := (Kd.R_reads' HO.out).2.1
          cases gk with
          | zero => exact absurd HA.out (by simp [sortS1])
          | succ k2 =>
            have H := HA.out
            clear HA
            simp only [sortS1] at H
            by_cases c7 : x7_1 < (out1.length : Int)
            · rw [if_pos c7] at H
              have c7b0 : decide (x7_1 < (out1.length : Int)) = true := decide_eq_true c7
              by_cases c8 : 0 ≤ x7_1 ∧ 0 ≤ x6_1 ∧ x6_1 < (l0.length : Int)
              · rw [if_pos c8] at H
                have h60 := c8.2.1
                have h61 := c8.2.2
                have p21 := eq_true c8.1
                have q21 := eq_true c7
                have p22 := eq_true c8.2.1
                have q22 := eq_true c8.2.2
                obtain ⟨ad7, e7, hx7⟩ := Kd.at_int (Kd.R_reads' HO.out).2.2 x7_1 c8.1 c7
                cases e7
                obtain ⟨ad8, e8, hx8⟩ := Kd.at_int (Kd.C_below HR0.out HB.out) x6_1 c8.2.1 c8.2.2
                cases e8
                by_cases c9 : rd out1 x7_1 ≤ rd l0 x6_1
                · rw [if_pos c9] at H
                  have c9b0 : decide (rd out1 x7_1 ≤ rd l0 x6_1) = true := decide_eq_true c9
                  clear c9
                  have H' := Aside0.mk H
                  clear H c8 c7
                  go_wp2
                  repeat (go_quiet (fail); try go_wp2)
                  go_roundg k2
                  case measure => have := HK1.out; have := HK2.out; omega
                  case rel => exact ⟨_, rfl, H', ⟨by have := HK1.out; have := HK2.out; omega⟩, ⟨(by (with_reducible repeat (first | apply Kd.R_alloc | apply Kd.R_drewN | apply Kd.R_drew)); exact HO.out)⟩, ⟨by repeat (first | (with_reducible first | exact HB.out | apply below_alloc | apply pw_below_drewN | apply below_drew1) | exact HB.out)⟩⟩
                · rw [if_neg c9] at H
                  have c9b0 : decide (rd out1 x7_1 ≤ rd l0 x6_1) = false := decide_eq_false c9
                  clear c9
                  by_cases ct : 0 ≤ x7_1 ∧ x7_1 ≤ (out1.length : Int) ∧ 0 ≤ x6_1 ∧ x6_1 < (l0.length : Int) ∧ out1.length + 1 < 17592186044416
                  · rw [if_pos ct] at H
                    obtain ⟨h70, h71, _, _, h72⟩ := ct
                    have H' := H
                    clear H c8 c7
                    go_wp2
                    repeat (go_quiet (fail); try go_wp2)
                    clear c7b0 c9b0 hx7 hx8 p21 q21 p22 q22
                    refine world_any (fun W => Kd.R (Kd.int .i64) 2 W w.heap.size (fun _ => True) (.slice (some ad7) out1.length c5) out1 ∧ Below w.heap.size w W) ⟨(by (with_reducible repeat (first | apply Kd.R_alloc | apply Kd.R_drewN | apply Kd.R_drew)); exact HO.out), by repeat (first | (with_reducible first | exact HB.out | apply below_alloc | apply pw_below_drewN | apply below_drew1) | exact HB.out)⟩ (fun W HF_ => ?_)
                    have HO9 := Aside0.mk HF_.1
                    have HBW := Aside0.mk HF_.2
                    clear HF_ HO HB
                    have hcD0 := (Kd.R_reads' HO9.out).2.2
                    have HCD := Aside0.mk (Kd.C_drop (m := x7_1.toNat) (c := c5) hcD0 (by omega) hcap)
                    have HCT := Aside0.mk (Kd.C_take (m := x7_1.toNat) hcD0 (by omega))
                    obtain ⟨T1, hT1⟩ : ∃ T_ : List Int, out1.take x7_1.toNat = T_ := ⟨_, rfl⟩
                    obtain ⟨D1, hD1⟩ : ∃ T_ : List Int, out1.drop x7_1.toNat = T_ := ⟨_, rfl⟩
                    have hTl : T1.length = x7_1.toNat := by rw [← hT1, List.length_take]; omega
                    have hDl : D1.length = out1.length - x7_1.toNat := by rw [← hD1, List.length_drop]
                    obtain ⟨AD, hAD⟩ : ∃ A_ : Option Addr, (if c5 = x7_1.toNat then (some ad7) else (some ad7).map (·.add (x7_1.toNat * (Kd.int .i64).sz))) = A_ := ⟨_, rfl⟩
                    rw [hT1] at HCT
                    rw [hD1, hAD] at HCD
                    have hcut40 := cut_to (P := Try.prog) 22 2 .i64 Try.underlying22 hi2 (some ad7) out1.length c5 x7_1 h70 h71 hcap
                    have hcut50 := cut_from (P := Try.prog) 22 2 .i64 Try.underlying22 hi2 1 hsz2 (some ad7) out1.length c5 x7_1 h70 h71
                    rw [hTl] at HCT
                    rw [hDl] at HCD
                    rw [show x7_1.toNat * (Kd.int .i64).sz = x7_1.toNat * 1 from rfl] at hAD
                    rw [hAD] at hcut50
                    obtain ⟨cD, hcD⟩ : ∃ c_ : Nat, c5 - x7_1.toNat = c_ := ⟨_, rfl⟩
                    rw [hcD] at hcut50
                    obtain ⟨ad6, e6, hx6⟩ := Kd.at_int (Kd.C_below HR0.out HBW.out) x6_1 h60 (by omega)
                    cases e6
                    have q60 := eq_true h60
                    have q61 := eq_true h61
                    have HS := Aside0.mk (below_drew1 (Below.refl W.heap.size W))
                    have hsz1 : T1.length + D1.length = out1.length := by omega
                    rw [hT1, hD1] at H'
                    refine start_ (n := 16) (S := fun w' => Below W.heap.size W w') (ds := []) #[false, false, false, false, false, false, false, false, false, false, false, false, false, false, false, false] (by kernel_rfl) rfl rfl HS.out (fun hHeld => ?_)
                    refine with_tabW sortR.tab sortR.bits (fun HT_ HW_ => ?_)
                    refine pure_ (i := 1) (N := some 38) (v := ?_) (a' := ?_) #[false, true, false, false, false, false, false, false, false, false, false, false, false, false, false, false] rfl rfl (any_of HT_.out (by kernel_rfl)) (fun _ _ _ h => h) (Or.inl ⟨by rfl, ?_⟩) ?_ ?_
                    rotate_left
                    · intro w'
                      go_simp
                      with_reducible rfl
                    rotate_left
                    · simp only [Act.put, List.setIfInBounds_toArray, List.set_cons_zero, List.set_cons_succ, i64_w, i32_w]
                      rfl
                    refine pure_ (i := 2) (N := some 39) (v := ?_) (a' := ?_) #[false, true, true, false, false, false, false, false, false, false, false, false, false, false, false, false] rfl rfl (any_of HT_.out (by kernel_rfl)) (fun _ _ _ h => h) (Or.inl ⟨by rfl, ?_⟩) ?_ ?_
                    rotate_left
                    · intro w'
                      go_simp
                      with_reducible rfl
                    rotate_left
                    · simp only [Act.put, List.setIfInBounds_toArray, List.set_cons_zero, List.set_cons_succ, i64_w, i32_w]
                      rfl
                    refine pure_ (i := 3) (N := some 40) (v := ?_) (a' := ?_) #[false, true, true, true, false, false, false, false, false, false, false, false, false, false, false, false] rfl rfl (any_of HT_.out (by kernel_rfl)) (fun _ _ _ h => h) (Or.inl ⟨by rfl, ?_⟩) ?_ ?_
                    rotate_left
                    · intro w'
                      go_simp
                      with_reducible rfl
                    rotate_left
                    · simp only [Act.put, List.setIfInBounds_toArray, List.set_cons_zero, List.set_cons_succ, i64_w, i32_w]
                      rfl
                    refine pure_ (i := 5) (N := some 42) (v := ?_) (a' := ?_) #[false, true, true, true, false, true, false, false, false, false, false, false, false, false, false, false] rfl rfl (any_of HT_.out (by kernel_rfl)) (fun _ _ _ h => h) (Or.inl ⟨by rfl, ?_⟩) ?_ ?_
                    rotate_left
                    · intro w'
                      go_simp
                      with_reducible rfl
                    rotate_left
                    · simp only [Act.put, List.setIfInBounds_toArray, List.set_cons_zero, List.set_cons_succ, i64_w, i32_w]
                      rfl
                    refine pure_ (i := 6) (N := some 43) (v := ?_) (a' := ?_) #[false, true, true, true, false, true, true, false, false, false, false, false, false, false, false, false] rfl rfl (any_of HT_.out (by kernel_rfl)) (fun _ _ _ h => h) (Or.inl ⟨by rfl, ?_⟩) ?_ ?_
                    rotate_left
                    · intro w'
                      go_simp
                      with_reducible rfl
                    rotate_left
                    · simp only [Act.put, List.setIfInBounds_toArray, List.set_cons_zero, List.set_cons_succ, i64_w, i32_w]
                      rfl
                    refine pure_ (i := 7) (N := some 44) (v := ?_) (a' := ?_) #[false, true, true, true, false, true, true, true, false, false, false, false, false, false, false, false] rfl rfl (any_of HT_.out (by kernel_rfl)) (fun _ _ _ h => h) (Or.inl ⟨by rfl, ?_⟩) ?_ ?_
                    rotate_left
                    · intro w'
                      go_simp
                      with_reducible rfl
                    rotate_left
                    · simp only [Act.put, List.setIfInBounds_toArray, List.set_cons_zero, List.set_cons_succ, i64_w, i32_w]
                      rfl
                    refine take_ (i := 8) (N := some 45) (v := ?_) (a' := ?_) #[false, true, true, true, false, true, true, true, true, false, false, false, false, false, false, false] rfl rfl (take_ofW HT_.out HW_.out (by kernel_rfl)) (fun _ _ _ h => h) (Or.inl ⟨by rfl, ?_⟩) hHeld ?_ ?_
                    rotate_left
                    · intro w' s0_
                      have s1_ := (s0_.cell (World.block_lt_of_cell? _ _ hx6)).trans hx6
                      go_simp
                      with_reducible rfl
                    rotate_left
                    · simp only [Act.put, List.setIfInBounds_toArray, List.set_cons_zero, List.set_cons_succ, i64_w, i32_w]
                      rfl
                    refine pure_ (i := 11) (N := some 48) (v := ?_) (a' := ?_) #[false, true, true, true, false, true, true, true, true, false, false, true, false, false, false, false] rfl rfl (any_of HT_.out (by kernel_rfl)) (fun _ _ _ h => h) (Or.inl ⟨by rfl, ?_⟩) ?_ ?_
                    rotate_left
                    · intro w'
                      go_simp
                      with_reducible rfl
                    rotate_left
                    · simp only [Act.put, List.setIfInBounds_toArray, List.set_cons_zero, List.set_cons_succ, i64_w, i32_w]
                      rfl
                    refine pure_ (i := 12) (N := some 49) (v := ?_) (a' := ?_) #[false, true, true, true, false, true, true, true, true, false, false, true, true, false, false, false] rfl rfl (any_of HT_.out (by kernel_rfl)) (fun _ _ _ h => h) (Or.inl ⟨by rfl, ?_⟩) ?_ ?_
                    rotate_left
                    · intro w'
                      go_simp
                      with_reducible rfl
                    rotate_left
                    · simp only [Act.put, List.setIfInBounds_toArray, List.set_cons_zero, List.set_cons_succ, i64_w, i32_w]
                      rfl
                    refine pure_ (i := 13) (N := some 50) (v := ?_) (a' := ?_) #[false, true, true, true, false, true, true, true, true, false, false, true, true, true, false, false] rfl rfl (any_of HT_.out (by kernel_rfl)) (fun _ _ _ h => h) (Or.inl ⟨by rfl, ?_⟩) ?_ ?_
                    rotate_left
                    · intro w'
                      go_simp
                      with_reducible rfl
                    rotate_left
                    · simp only [Act.put, List.setIfInBounds_toArray, List.set_cons_zero, List.set_cons_succ, i64_w, i32_w]
                      rfl
                    refine two_ (i := 0) (j := 9) (Ni := some 37) (Nj := some 46) #[true, true, true, true, false, true, true, true, true, false, false, true, true, true, false, false] #[false, true, true, true, false, true, true, true, true, true, false, true, true, true, false, false] rfl rfl rfl rfl (two_of HT_.out (by kernel_rfl)) (by decide) (by decide) (fun K hK => ?_) (fun K hK => ?_)
                    · skip
                      refine Kd.R_lit_step (Kd.int .i64) _ 2 ?hg (N := 37) ?hd (xs := ([] : List Int)) (inner := []) (ok := fun _ => True) (okp := fun _ => True) ?hr ?hp (fun _ hk => hk) trivial (Below.refl _ _) (Nat.le_refl _) (by simp) ?_; (case hd => rfl); (case hg => rfl); (case hr => first | (go_simp; done) | (go_simp; rfl)); (case hp => exact (Reps.none _ _))
                      intro ve we ho hb hg_ hnew_
                      have HE := Aside0.mk (Kd.R_lower ho (below_size HS.out))
                      have n1_ := Aside0.mk (below_step HS.out hb)
                      clear HS
                      have HS := n1_
                      clear n1_ hb ho hg_ hnew_
                      refine hK.out _ _ HS.out (fun hHeld => ?_)
                      clear hK K
                      refine norm_ (a' := ?_) ?_ ?_
                      rotate_left
                      · show Act.put _ (some 37) _ = _
                        simp only [Act.put, List.setIfInBounds_toArray, List.set_cons_zero, List.set_cons_succ, i64_w, i32_w]
                        rfl
                      refine two_ (i := 4) (j := 9) (Ni := some 41) (Nj := some 46) #[true, true, true, true, true, true, true, true, true, false, false, true, true, true, false, false] #[true, true, true, true, false, true, true, true, true, true, false, true, true, true, false, false] rfl rfl rfl rfl (two_of HT_.out (by kernel_rfl)) (by decide) (by decide) (fun K hK => ?_) (fun K hK => ?_)
                      · skip
                        refine Kd.R_append_rows_step (Kd.int .i64) (w0 := W) W.heap.size (by rfl) (.tmp 37) (.tmp 40) 22 2 (.int .i64 0) 8 rfl Try.underlying22 info2 rfl (by decide) (by omega) ve ([]) (T1) _ _ _ (fun _ => True) (fun _ => False) rfl rfl ?aO ?aR (fun _ _ h => h) (fun _ h => h.elim) ?aF ?aB ?aS ?aL ?_; (case aR => exact (Kd.C_below HCT.out HS.out)); (case aB => exact HS.out); (case aF => exact (fun _ _ => trivial)); (case aO => exact HE.out); (case aS => exact (below_size HS.out)); (case aL => simp only [List.length_append, List.length_nil, List.length_singleton]; omega)
                        intro vt wa ho hb hg hat
                        have HT := Aside0.mk ho
                        clear HS
                        have HS := Aside0.mk hb
                        clear hb ho hg hat
                        refine hK.out _ _ HS.out (fun hHeld => ?_)
                        clear hK K
                        refine norm_ (a' := ?_) ?_ ?_
                        rotate_left
                        · show Act.put _ (some 41) _ = _
                          simp only [Act.put, List.setIfInBounds_toArray, List.set_cons_zero, List.set_cons_succ, i64_w, i32_w]
                          rfl
                        refine one_ (i := 9) (N := some 46) #[true, true, true, true, true, true, true, true, true, true, false, true, true, true, false, false] rfl rfl (one_of HT_.out (by kernel_rfl)) (by decide) (fun K hK => ?_)
                        refine Kd.R_lit_step (Kd.int .i64) _ 2 ?hg (N := 46) ?hd (xs := ([(rd l0 x6_1)] : List Int)) (inner := [.int .i64 ((rd l0 x6_1))]) (ok := fun _ => True) (okp := fun _ => True) ?hr ?hp (fun _ hk => hk) trivial (Below.refl _ _) (Nat.le_refl _) (by simp) ?_; (case hd => rfl); (case hg => rfl); (case hr => first | (go_simp; done) | (go_simp; rfl)); (case hp => exact (Reps.one (show Kd.M (Kd.int .i64) _ _ _ ((rd l0 x6_1)) [.int .i64 ((rd l0 x6_1))] from rfl) (Reps.none _ _)))
                        intro vl wl ho hb hg_ hnew_
                        obtain ⟨Al, cl, el⟩ := Kd.R_slice ho
                        subst el
                        have n0_ := Aside0.mk (Kd.R_below HT.out hb)
                        clear HT
                        have HT := n0_
                        clear n0_
                        have HL := Aside0.mk (Kd.R_lower ho (below_size HS.out))
                        have n1_ := Aside0.mk (below_step HS.out hb)
                        clear HS
                        have HS := n1_
                        clear n1_ hb ho hg_ hnew_
                        refine hK.out _ _ HS.out (fun hHeld => ?_)
                        clear hK K
                        refine norm_ (a' := ?_) ?_ ?_
                        rotate_left
                        · show Act.put _ (some 46) _ = _
                          simp only [Act.put, List.setIfInBounds_toArray, List.set_cons_zero, List.set_cons_succ, i64_w, i32_w]
                          rfl
                        refine one_ (i := 10) (N := some 47) #[true, true, true, true, true, true, true, true, true, true, true, true, true, true, false, false] rfl rfl (one_of HT_.out (by kernel_rfl)) (by decide) (fun K hK => ?_)
                        refine Kd.R_append_rows_step (Kd.int .i64) (w0 := W) W.heap.size (by rfl) (.tmp 41) (.tmp 46) 22 2 (.int .i64 0) 8 rfl Try.underlying22 info2 rfl (by decide) (by omega) vt ([] ++ T1) ([(rd l0 x6_1)]) _ _ _ (fun _ => True) (fun _ => False) rfl rfl ?aO ?aR (fun _ _ h => h) (fun _ h => h.elim) ?aF ?aB ?aS ?aL ?_; (case aR => exact (Kd.R_reads' HL.out).2.2); (case aB => exact HS.out); (case aF => exact (fun _ _ => trivial)); (case aO => exact HT.out); (case aS => exact (below_size HS.out)); (case aL => simp only [List.length_append, List.length_nil, List.length_singleton]; omega)
                        intro vu wa ho hb hg hat
                        have HU := Aside0.mk ho
                        clear HS
                        have HS := Aside0.mk hb
                        clear hb ho hg hat
                        refine hK.out _ _ HS.out (fun hHeld => ?_)
                        clear hK K
                        refine norm_ (a' := ?_) ?_ ?_
                        rotate_left
                        · show Act.put _ (some 47) _ = _
                          simp only [Act.put, List.setIfInBounds_toArray, List.set_cons_zero, List.set_cons_succ, i64_w, i32_w]
                          rfl
                        refine one_ (i := 14) (N := some 51) #[true, true, true, true, true, true, true, true, true, true, true, true, true, true, true, false] rfl rfl (one_of HT_.out (by kernel_rfl)) (by decide) (fun K hK => ?_)
                        refine Kd.R_append_rows_step (Kd.int .i64) (w0 := W) W.heap.size (by rfl) (.tmp 47) (.tmp 50) 22 2 (.int .i64 0) 8 rfl Try.underlying22 info2 rfl (by decide) (by omega) vu ([] ++ T1 ++ [(rd l0 x6_1)]) (D1) _ _ _ (fun _ => True) (fun _ => False) rfl rfl ?aO ?aR (fun _ _ h => h) (fun _ h => h.elim) ?aF ?aB ?aS ?aL ?_; (case aR => exact (Kd.C_below HCD.out HS.out)); (case aB => exact HS.out); (case aF => exact (fun _ _ => trivial)); (case aO => exact HU.out); (case aS => exact (below_size HS.out)); (case aL => simp only [List.length_append, List.length_nil, List.length_singleton]; omega)
                        intro vz wa ho hb hg hat
                        have HZ := Aside0.mk ho
                        clear HS
                        have HS := Aside0.mk hb
                        clear hb ho hg hat
                        refine hK.out _ _ HS.out (fun hHeld => ?_)
                        clear hK K
                        refine norm_ (a' := ?_) ?_ ?_
                        rotate_left
                        · show Act.put _ (some 51) _ = _
                          simp only [Act.put, List.setIfInBounds_toArray, List.set_cons_zero, List.set_cons_succ, i64_w, i32_w]
                          rfl
                        refine pure_ (i := 15) (N := some 5) (v := ?_) (a' := ?_) #[true, true, true, true, true, true, true, true, true, true, true, true, true, true, true, true] rfl rfl (any_of HT_.out (by kernel_rfl)) (fun _ _ _ h => h) (Or.inl ⟨by rfl, ?_⟩) ?_ ?_
                        rotate_left
                        · intro w'
                          go_simp
                          with_reducible rfl
                        rotate_left
                        · simp only [Act.put, List.setIfInBounds_toArray, List.set_cons_zero, List.set_cons_succ, i64_w, i32_w]
                          rfl
                        refine done_ (done_of HT_.out (by kernel_rfl)) ?_
                        obtain ⟨Az, cz, ez⟩ := Kd.R_slice HZ.out
                        subst ez
                        go_wp2
                        go_roundg k2
                        case measure => have := HK1.out; have := HK2.out; omega
                        case rel => exact ⟨[] ++ T1 ++ [(rd l0 x6_1)] ++ D1, Az, cz, _, rfl, rfl, (by first | exact ⟨H'⟩ | (have e_ : wrap64 (x6_1 + 1) = x6_1 + 1 := (by unfold wrap64; omega); rw [e_] at H'; exact ⟨H'⟩)), ⟨by have := HK1.out; have := HK2.out; omega⟩, ⟨Kd.R_lower HZ.out (below_size HBW.out)⟩, ⟨below_step HBW.out HS.out⟩⟩
                      · skip
                        refine Kd.R_lit_step (Kd.int .i64) _ 2 ?hg (N := 46) ?hd (xs := ([(rd l0 x6_1)] : List Int)) (inner := [.int .i64 ((rd l0 x6_1))]) (ok := fun _ => True) (okp := fun _ => True) ?hr ?hp (fun _ hk => hk) trivial (Below.refl _ _) (Nat.le_refl _) (by simp) ?_; (case hd => rfl); (case hg => rfl); (case hr => first | (go_simp; done) | (go_simp; rfl)); (case hp => exact (Reps.one (show Kd.M (Kd.int .i64) _ _ _ ((rd l0 x6_1)) [.int .i64 ((rd l0 x6_1))] from rfl) (Reps.none _ _)))
                        intro vl wl ho hb hg_ hnew_
                        obtain ⟨Al, cl, el⟩ := Kd.R_slice ho
                        subst el
                        have NE := Aside0.mk (ne_earlier HE.out hnew_)
                        have n0_ := Aside0.mk (Kd.R_below HE.out hb)
                        clear HE
                        have HE := n0_
                        clear n0_
                        have HL := Aside0.mk (Kd.R_lower ho (below_size HS.out))
                        have n1_ := Aside0.mk (below_step HS.out hb)
                        clear HS
                        have HS := n1_
                        clear n1_ hb ho hg_ hnew_
                        refine hK.out _ _ HS.out (fun hHeld => ?_)
                        clear hK K
                        refine norm_ (a' := ?_) ?_ ?_
                        rotate_left
                        · show Act.put _ (some 46) _ = _
                          simp only [Act.put, List.setIfInBounds_toArray, List.set_cons_zero, List.set_cons_succ, i64_w, i32_w]
                          rfl
                        refine one_ (i := 4) (N := some 41) #[true, true, true, true, true, true, true, true, true, true, false, true, true, true, false, false] rfl rfl (one_of HT_.out (by kernel_rfl)) (by decide) (fun K hK => ?_)
                        refine Kd.R_append_rows_step (Kd.int .i64) (w0 := W) W.heap.size (by rfl) (.tmp 37) (.tmp 40) 22 2 (.int .i64 0) 8 rfl Try.underlying22 info2 rfl (by decide) (by omega) ve ([]) (T1) _ _ _ (fun _ => True) (fun _ => False) rfl rfl ?aO ?aR (fun _ _ h => h) (fun _ h => h.elim) ?aF ?aB ?aS ?aL ?_; (case aR => exact (Kd.C_below HCT.out HS.out)); (case aB => exact HS.out); (case aF => exact (fun _ _ => trivial)); (case aO => exact HE.out); (case aS => exact (below_size HS.out)); (case aL => simp only [List.length_append, List.length_nil, List.length_singleton]; omega)
                        intro vt wa ho hb hg hat
                        have n2_ := Aside0.mk (Kd.R_grown2 HL.out rfl hg (fun k_ hk_ => NE.out k_ hk_))
                        clear HL
                        have HL := n2_
                        clear n2_ NE
                        have HT := Aside0.mk ho
                        clear HS
                        have HS := Aside0.mk hb
                        clear hb ho hg hat
                        refine hK.out _ _ HS.out (fun hHeld => ?_)
                        clear hK K
                        refine norm_ (a' := ?_) ?_ ?_
                        rotate_left
                        · show Act.put _ (some 41) _ = _
                          simp only [Act.put, List.setIfInBounds_toArray, List.set_cons_zero, List.set_cons_succ, i64_w, i32_w]
                          rfl
                        refine one_ (i := 10) (N := some 47) #[true, true, true, true, true, true, true, true, true, true, true, true, true, true, false, false] rfl rfl (one_of HT_.out (by kernel_rfl)) (by decide) (fun K hK => ?_)
                        refine Kd.R_append_rows_step (Kd.int .i64) (w0 := W) W.heap.size (by rfl) (.tmp 41) (.tmp 46) 22 2 (.int .i64 0) 8 rfl Try.underlying22 info2 rfl (by decide) (by omega) vt ([] ++ T1) ([(rd l0 x6_1)]) _ _ _ (fun _ => True) (fun _ => False) rfl rfl ?aO ?aR (fun _ _ h => h) (fun _ h => h.elim) ?aF ?aB ?aS ?aL ?_; (case aR => exact (Kd.R_reads' HL.out).2.2); (case aB => exact HS.out); (case aF => exact (fun _ _ => trivial)); (case aO => exact HT.out); (case aS => exact (below_size HS.out)); (case aL => simp only [List.length_append, List.length_nil, List.length_singleton]; omega)
                        intro vu wa ho hb hg hat
                        have HU := Aside0.mk ho
                        clear HS
                        have HS := Aside0.mk hb
                        clear hb ho hg hat
                        refine hK.out _ _ HS.out (fun hHeld => ?_)
                        clear hK K
                        refine norm_ (a' := ?_) ?_ ?_
                        rotate_left
                        · show Act.put _ (some 47) _ = _
                          simp only [Act.put, List.setIfInBounds_toArray, List.set_cons_zero, List.set_cons_succ, i64_w, i32_w]
                          rfl
                        refine one_ (i := 14) (N := some 51) #[true, true, true, true, true, true, true, true, true, true, true, true, true, true, true, false] rfl rfl (one_of HT_.out (by kernel_rfl)) (by decide) (fun K hK => ?_)
                        refine Kd.R_append_rows_step (Kd.int .i64) (w0 := W) W.heap.size (by rfl) (.tmp 47) (.tmp 50) 22 2 (.int .i64 0) 8 rfl Try.underlying22 info2 rfl (by decide) (by omega) vu ([] ++ T1 ++ [(rd l0 x6_1)]) (D1) _ _ _ (fun _ => True) (fun _ => False) rfl rfl ?aO ?aR (fun _ _ h => h) (fun _ h => h.elim) ?aF ?aB ?aS ?aL ?_; (case aR => exact (Kd.C_below HCD.out HS.out)); (case aB => exact HS.out); (case aF => exact (fun _ _ => trivial)); (case aO => exact HU.out); (case aS => exact (below_size HS.out)); (case aL => simp only [List.length_append, List.length_nil, List.length_singleton]; omega)
                        intro vz wa ho hb hg hat
                        have HZ := Aside0.mk ho
                        clear HS
                        have HS := Aside0.mk hb
                        clear hb ho hg hat
                        refine hK.out _ _ HS.out (fun hHeld => ?_)
                        clear hK K
                        refine norm_ (a' := ?_) ?_ ?_
                        rotate_left
                        · show Act.put _ (some 51) _ = _
                          simp only [Act.put, List.setIfInBounds_toArray, List.set_cons_zero, List.set_cons_succ, i64_w, i32_w]
                          rfl
                        refine pure_ (i := 15) (N := some 5) (v := ?_) (a' := ?_) #[true, true, true, true, true, true, true, true, true, true, true, true, true, true, true, true] rfl rfl (any_of HT_.out (by kernel_rfl)) (fun _ _ _ h => h) (Or.inl ⟨by rfl, ?_⟩) ?_ ?_
                        rotate_left
                        · intro w'
                          go_simp
                          with_reducible rfl
                        rotate_left
                        · simp only [Act.put, List.setIfInBounds_toArray, List.set_cons_zero, List.set_cons_succ, i64_w, i32_w]
                          rfl
                        refine done_ (done_of HT_.out (by kernel_rfl)) ?_
                        obtain ⟨Az, cz, ez⟩ := Kd.R_slice HZ.out
                        subst ez
                        go_wp2
                        go_roundg k2
                        case measure => have := HK1.out; have := HK2.out; omega
                        case rel => exact ⟨[] ++ T1 ++ [(rd l0 x6_1)] ++ D1, Az, cz, _, rfl, rfl, (by first | exact ⟨H'⟩ | (have e_ : wrap64 (x6_1 + 1) = x6_1 + 1 := (by unfold wrap64; omega); rw [e_] at H'; exact ⟨H'⟩)), ⟨by have := HK1.out; have := HK2.out; omega⟩, ⟨Kd.R_lower HZ.out (below_size HBW.out)⟩, ⟨below_step HBW.out HS.out⟩⟩
                    · skip
                      refine Kd.R_lit_step (Kd.int .i64) _ 2 ?hg (N := 46) ?hd (xs := ([(rd l0 x6_1)] : List Int)) (inner := [.int .i64 ((rd l0 x6_1))]) (ok := fun _ => True) (okp := fun _ => True) ?hr ?hp (fun _ hk => hk) trivial (Below.refl _ _) (Nat.le_refl _) (by simp) ?_; (case hd => rfl); (case hg => rfl); (case hr => first | (go_simp; done) | (go_simp; rfl)); (case hp => exact (Reps.one (show Kd.M (Kd.int .i64) _ _ _ ((rd l0 x6_1)) [.int .i64 ((rd l0 x6_1))] from rfl) (Reps.none _ _)))
                      intro vl wl ho hb hg_ hnew_
                      obtain ⟨Al, cl, el⟩ := Kd.R_slice ho
                      subst el
                      have HL := Aside0.mk (Kd.R_lower ho (below_size HS.out))
                      have n1_ := Aside0.mk (below_step HS.out hb)
                      clear HS
                      have HS := n1_
                      clear n1_ hb ho hg_ hnew_
                      refine hK.out _ _ HS.out (fun hHeld => ?_)
                      clear hK K
                      refine norm_ (a' := ?_) ?_ ?_
                      rotate_left
                      · show Act.put _ (some 46) _ = _
                        simp only [Act.put, List.setIfInBounds_toArray, List.set_cons_zero, List.set_cons_succ, i64_w, i32_w]
                        rfl
                      refine one_ (i := 0) (N := some 37) #[true, true, true, true, false, true, true, true, true, true, false, true, true, true, false, false] rfl rfl (one_of HT_.out (by kernel_rfl)) (by decide) (fun K hK => ?_)
                      refine Kd.R_lit_step (Kd.int .i64) _ 2 ?hg (N := 37) ?hd (xs := ([] : List Int)) (inner := []) (ok := fun _ => True) (okp := fun _ => True) ?hr ?hp (fun _ hk => hk) trivial (Below.refl _ _) (Nat.le_refl _) (by simp) ?_; (case hd => rfl); (case hg => rfl); (case hr => first | (go_simp; done) | (go_simp; rfl)); (case hp => exact (Reps.none _ _))
                      intro ve we ho hb hg_ hnew_
                      have NE := Aside0.mk (ne_later HL.out hnew_)
                      have n0_ := Aside0.mk (Kd.R_below HL.out hb)
                      clear HL
                      have HL := n0_
                      clear n0_
                      have HE := Aside0.mk (Kd.R_lower ho (below_size HS.out))
                      have n1_ := Aside0.mk (below_step HS.out hb)
                      clear HS
                      have HS := n1_
                      clear n1_ hb ho hg_ hnew_
                      refine hK.out _ _ HS.out (fun hHeld => ?_)
                      clear hK K
                      refine norm_ (a' := ?_) ?_ ?_
                      rotate_left
                      · show Act.put _ (some 37) _ = _
                        simp only [Act.put, List.setIfInBounds_toArray, List.set_cons_zero, List.set_cons_succ, i64_w, i32_w]
                        rfl
                      refine one_ (i := 4) (N := some 41) #[true, true, true, true, true, true, true, true, true, true, false, true, true, true, false, false] rfl rfl (one_of HT_.out (by kernel_rfl)) (by decide) (fun K hK => ?_)
                      refine Kd.R_append_rows_step (Kd.int .i64) (w0 := W) W.heap.size (by rfl) (.tmp 37) (.tmp 40) 22 2 (.int .i64 0) 8 rfl Try.underlying22 info2 rfl (by decide) (by omega) ve ([]) (T1) _ _ _ (fun _ => True) (fun _ => False) rfl rfl ?aO ?aR (fun _ _ h => h) (fun _ h => h.elim) ?aF ?aB ?aS ?aL ?_; (case aR => exact (Kd.C_below HCT.out HS.out)); (case aB => exact HS.out); (case aF => exact (fun _ _ => trivial)); (case aO => exact HE.out); (case aS => exact (below_size HS.out)); (case aL => simp only [List.length_append, List.length_nil, List.length_singleton]; omega)
                      intro vt wa ho hb hg hat
                      have n2_ := Aside0.mk (Kd.R_grown2 HL.out rfl hg (fun k_ hk_ => NE.out k_ hk_))
                      clear HL
                      have HL := n2_
                      clear n2_ NE
                      have HT := Aside0.mk ho
                      clear HS
                      have HS := Aside0.mk hb
                      clear hb ho hg hat
                      refine hK.out _ _ HS.out (fun hHeld => ?_)
                      clear hK K
                      refine norm_ (a' := ?_) ?_ ?_
                      rotate_left
                      · show Act.put _ (some 41) _ = _
                        simp only [Act.put, List.setIfInBounds_toArray, List.set_cons_zero, List.set_cons_succ, i64_w, i32_w]
                        rfl
                      refine one_ (i := 10) (N := some 47) #[true, true, true, true, true, true, true, true, true, true, true, true, true, true, false, false] rfl rfl (one_of HT_.out (by kernel_rfl)) (by decide) (fun K hK => ?_)
                      refine Kd.R_append_rows_step (Kd.int .i64) (w0 := W) W.heap.size (by rfl) (.tmp 41) (.tmp 46) 22 2 (.int .i64 0) 8 rfl Try.underlying22 info2 rfl (by decide) (by omega) vt ([] ++ T1) ([(rd l0 x6_1)]) _ _ _ (fun _ => True) (fun _ => False) rfl rfl ?aO ?aR (fun _ _ h => h) (fun _ h => h.elim) ?aF ?aB ?aS ?aL ?_; (case aR => exact (Kd.R_reads' HL.out).2.2); (case aB => exact HS.out); (case aF => exact (fun _ _ => trivial)); (case aO => exact HT.out); (case aS => exact (below_size HS.out)); (case aL => simp only [List.length_append, List.length_nil, List.length_singleton]; omega)
                      intro vu wa ho hb hg hat
                      have HU := Aside0.mk ho
                      clear HS
                      have HS := Aside0.mk hb
                      clear hb ho hg hat
                      refine hK.out _ _ HS.out (fun hHeld => ?_)
                      clear hK K
                      refine norm_ (a' := ?_) ?_ ?_
                      rotate_left
                      · show Act.put _ (some 47) _ = _
                        simp only [Act.put, List.setIfInBounds_toArray, List.set_cons_zero, List.set_cons_succ, i64_w, i32_w]
                        rfl
                      refine one_ (i := 14) (N := some 51) #[true, true, true, true, true, true, true, true, true, true, true, true, true, true, true, false] rfl rfl (one_of HT_.out (by kernel_rfl)) (by decide) (fun K hK => ?_)
                      refine Kd.R_append_rows_step (Kd.int .i64) (w0 := W) W.heap.size (by rfl) (.tmp 47) (.tmp 50) 22 2 (.int .i64 0) 8 rfl Try.underlying22 info2 rfl (by decide) (by omega) vu ([] ++ T1 ++ [(rd l0 x6_1)]) (D1) _ _ _ (fun _ => True) (fun _ => False) rfl rfl ?aO ?aR (fun _ _ h => h) (fun _ h => h.elim) ?aF ?aB ?aS ?aL ?_; (case aR => exact (Kd.C_below HCD.out HS.out)); (case aB => exact HS.out); (case aF => exact (fun _ _ => trivial)); (case aO => exact HU.out); (case aS => exact (below_size HS.out)); (case aL => simp only [List.length_append, List.length_nil, List.length_singleton]; omega)
                      intro vz wa ho hb hg hat
                      have HZ := Aside0.mk ho
                      clear HS
                      have HS := Aside0.mk hb
                      clear hb ho hg hat
                      refine hK.out _ _ HS.out (fun hHeld => ?_)
                      clear hK K
                      refine norm_ (a' := ?_) ?_ ?_
                      rotate_left
                      · show Act.put _ (some 51) _ = _
                        simp only [Act.put, List.setIfInBounds_toArray, List.set_cons_zero, List.set_cons_succ, i64_w, i32_w]
                        rfl
                      refine pure_ (i := 15) (N := some 5) (v := ?_) (a' := ?_) #[true, true, true, true, true, true, true, true, true, true, true, true, true, true, true, true] rfl rfl (any_of HT_.out (by kernel_rfl)) (fun _ _ _ h => h) (Or.inl ⟨by rfl, ?_⟩) ?_ ?_
                      rotate_left
                      · intro w'
                        go_simp
                        with_reducible rfl
                      rotate_left
                      · simp only [Act.put, List.setIfInBounds_toArray, List.set_cons_zero, List.set_cons_succ, i64_w, i32_w]
                        rfl
                      refine done_ (done_of HT_.out (by kernel_rfl)) ?_
                      obtain ⟨Az, cz, ez⟩ := Kd.R_slice HZ.out
                      subst ez
                      go_wp2
                      go_roundg k2
                      case measure => have := HK1.out; have := HK2.out; omega
                      case rel => exact ⟨[] ++ T1 ++ [(rd l0 x6_1)] ++ D1, Az, cz, _, rfl, rfl, (by first | exact ⟨H'⟩ | (have e_ : wrap64 (x6_1 + 1) = x6_1 + 1 := (by unfold wrap64; omega); rw [e_] at H'; exact ⟨H'⟩)), ⟨by have := HK1.out; have := HK2.out; omega⟩, ⟨Kd.R_lower HZ.out (below_size HBW.out)⟩, ⟨below_step HBW.out HS.out⟩⟩
                  · rw [if_neg ct] at H
                    exact absurd H (by simp)
              · rw [if_neg c8] at H
                exact absurd H (by simp)
            · rw [if_neg c7] at H
              have c7b0 : decide (x7_1 < (out1.length : Int)) = false := decide_eq_false c7
              clear c7
              by_cases ct : 0 ≤ x7_1 ∧ x7_1 ≤ (out1.length : Int) ∧ 0 ≤ x6_1 ∧ x6_1 < (l0.length : Int) ∧ out1.length + 1 < 17592186044416
              · rw [if_pos ct] at H
                obtain ⟨h70, h71, h60, h61, h72⟩ := ct
                have H' := H
                clear H
                go_wp2
                repeat (go_quiet (fail); try go_wp2)
                clear c7b0
                refine world_any (fun W => Kd.R (Kd.int .i64) 2 W w.heap.size (fun _ => True) (.slice A5 out1.length c5) out1 ∧ Below w.heap.size w W) ⟨(by (with_reducible repeat (first | apply Kd.R_alloc | apply Kd.R_drewN | apply Kd.R_drew)); exact HO.out), by repeat (first | (with_reducible first | exact HB.out | apply below_alloc | apply pw_below_drewN | apply below_drew1) | exact HB.out)⟩ (fun W HF_ => ?_)
                have HO9 := Aside0.mk HF_.1
                have HBW := Aside0.mk HF_.2
                clear HF_ HO HB
                have hcD0 := (Kd.R_reads' HO9.out).2.2
                have HCD := Aside0.mk (Kd.C_drop (m := x7_1.toNat) (c := c5) hcD0 (by omega) hcap)
                have HCT := Aside0.mk (Kd.C_take (m := x7_1.toNat) hcD0 (by omega))
                obtain ⟨T1, hT1⟩ : ∃ T_ : List Int, out1.take x7_1.toNat = T_ := ⟨_, rfl⟩
                obtain ⟨D1, hD1⟩ : ∃ T_ : List Int, out1.drop x7_1.toNat = T_ := ⟨_, rfl⟩
                have hTl : T1.length = x7_1.toNat := by rw [← hT1, List.length_take]; omega
                have hDl : D1.length = out1.length - x7_1.toNat := by rw [← hD1, List.length_drop]
                obtain ⟨AD, hAD⟩ : ∃ A_ : Option Addr, (if c5 = x7_1.toNat then A5 else A5.map (·.add (x7_1.toNat * (Kd.int .i64).sz))) = A_ := ⟨_, rfl⟩
                rw [hT1] at HCT
                rw [hD1, hAD] at HCD
                have hcut40 := cut_to (P := Try.prog) 22 2 .i64 Try.underlying22 hi2 A5 out1.length c5 x7_1 h70 h71 hcap
                have hcut50 := cut_from (P := Try.prog) 22 2 .i64 Try.underlying22 hi2 1 hsz2 A5 out1.length c5 x7_1 h70 h71
                rw [hTl] at HCT
                rw [hDl] at HCD
                rw [show x7_1.toNat * (Kd.int .i64).sz = x7_1.toNat * 1 from rfl] at hAD
                rw [hAD] at hcut50
                obtain ⟨cD, hcD⟩ : ∃ c_ : Nat, c5 - x7_1.toNat = c_ := ⟨_, rfl⟩
                rw [hcD] at hcut50
                obtain ⟨ad6, e6, hx6⟩ := Kd.at_int (Kd.C_below HR0.out HBW.out) x6_1 h60 (by omega)
                cases e6
                have q60 := eq_true h60
                have q61 := eq_true h61
                have HS := Aside0.mk (below_drew1 (Below.refl W.heap.size W))
                have hsz1 : T1.length + D1.length = out1.length := by omega
                rw [hT1, hD1] at H'
                refine start_ (n := 16) (S := fun w' => Below W.heap.size W w') (ds := []) #[false, false, false, false, false, false, false, false, false, false, false, false, false, false, false, false] (by kernel_rfl) rfl rfl HS.out (fun hHeld => ?_)
                refine with_tabW sortR.tab sortR.bits (fun HT_ HW_ => ?_)
                refine pure_ (i := 1) (N := some 38) (v := ?_) (a' := ?_) #[false, true, false, false, false, false, false, false, false, false, false, false, false, false, false, false] rfl rfl (any_of HT_.out (by kernel_rfl)) (fun _ _ _ h => h) (Or.inl ⟨by rfl, ?_⟩) ?_ ?_
                rotate_left
                · intro w'
                  go_simp
                  with_reducible rfl
                rotate_left
                · simp only [Act.put, List.setIfInBounds_toArray, List.set_cons_zero, List.set_cons_succ, i64_w, i32_w]
                  rfl
                refine pure_ (i := 2) (N := some 39) (v := ?_) (a' := ?_) #[false, true, true, false, false, false, false, false, false, false, false, false, false, false, false, false] rfl rfl (any_of HT_.out (by kernel_rfl)) (fun _ _ _ h => h) (Or.inl ⟨by rfl, ?_⟩) ?_ ?_
                rotate_left
                · intro w'
                  go_simp
                  with_reducible rfl
                rotate_left
                · simp only [Act.put, List.setIfInBounds_toArray, List.set_cons_zero, List.set_cons_succ, i64_w, i32_w]
                  rfl
                refine pure_ (i := 3) (N := some 40) (v := ?_) (a' := ?_) #[false, true, true, true, false, false, false, false, false, false, false, false, false, false, false, false] rfl rfl (any_of HT_.out (by kernel_rfl)) (fun _ _ _ h => h) (Or.inl ⟨by rfl, ?_⟩) ?_ ?_
                rotate_left
                · intro w'
                  go_simp
                  with_reducible rfl
                rotate_left
                · simp only [Act.put, List.setIfInBounds_toArray, List.set_cons_zero, List.set_cons_succ, i64_w, i32_w]
                  rfl
                refine pure_ (i := 5) (N := some 42) (v := ?_) (a' := ?_) #[false, true, true, true, false, true, false, false, false, false, false, false, false, false, false, false] rfl rfl (any_of HT_.out (by kernel_rfl)) (fun _ _ _ h => h) (Or.inl ⟨by rfl, ?_⟩) ?_ ?_
                rotate_left
                · intro w'
                  go_simp
                  with_reducible rfl
                rotate_left
                · simp only [Act.put, List.setIfInBounds_toArray, List.set_cons_zero, List.set_cons_succ, i64_w, i32_w]
                  rfl
                refine pure_ (i := 6) (N := some 43) (v := ?_) (a' := ?_) #[false, true, true, true, false, true, true, false, false, false, false, false, false, false, false, false] rfl rfl (any_of HT_.out (by kernel_rfl)) (fun _ _ _ h => h) (Or.inl ⟨by rfl, ?_⟩) ?_ ?_
                rotate_left
                · intro w'
                  go_simp
                  with_reducible rfl
                rotate_left
                · simp only [Act.put, List.setIfInBounds_toArray, List.set_cons_zero, List.set_cons_succ, i64_w, i32_w]
                  rfl
                refine pure_ (i := 7) (N := some 44) (v := ?_) (a' := ?_) #[false, true, true, true, false, true, true, true, false, false, false, false, false, false, false, false] rfl rfl (any_of HT_.out (by kernel_rfl)) (fun _ _ _ h => h) (Or.inl ⟨by rfl, ?_⟩) ?_ ?_
                rotate_left
                · intro w'
                  go_simp
                  with_reducible rfl
                rotate_left
                · simp only [Act.put, List.setIfInBounds_toArray, List.set_cons_zero, List.set_cons_succ, i64_w, i32_w]
                  rfl
                refine take_ (i := 8) (N := some 45) (v := ?_) (a' := ?_) #[false, true, true, true, false, true, true, true, true, false, false, false, false, false, false, false] rfl rfl (take_ofW HT_.out HW_.out (by kernel_rfl)) (fun _ _ _ h => h) (Or.inl ⟨by rfl, ?_⟩) hHeld ?_ ?_
                rotate_left
                · intro w' s0_
                  have s1_ := (s0_.cell (World.block_lt_of_cell? _ _ hx6)).trans hx6
                  go_simp
                  with_reducible rfl
                rotate_left
                · simp only [Act.put, List.setIfInBounds_toArray, List.set_cons_zero, List.set_cons_succ, i64_w, i32_w]
                  rfl
                refine pure_ (i := 11) (N := some 48) (v := ?_) (a' := ?_) #[false, true, true, true, false, true, true, true, true, false, false, true, false, false, false, false] rfl rfl (any_of HT_.out (by kernel_rfl)) (fun _ _ _ h => h) (Or.inl ⟨by rfl, ?_⟩) ?_ ?_
                rotate_left
                · intro w'
                  go_simp
                  with_reducible rfl
                rotate_left
                · simp only [Act.put, List.setIfInBounds_toArray, List.set_cons_zero, List.set_cons_succ, i64_w, i32_w]
                  rfl
                refine pure_ (i := 12) (N := some 49) (v := ?_) (a' := ?_) #[false, true, true, true, false, true, true, true, true, false, false, true, true, false, false, false] rfl rfl (any_of HT_.out (by kernel_rfl)) (fun _ _ _ h => h) (Or.inl ⟨by rfl, ?_⟩) ?_ ?_
                rotate_left
                · intro w'
                  go_simp
                  with_reducible rfl
                rotate_left
                · simp only [Act.put, List.setIfInBounds_toArray, List.set_cons_zero, List.set_cons_succ, i64_w, i32_w]
                  rfl
                refine pure_ (i := 13) (N := some 50) (v := ?_) (a' := ?_) #[false, true, true, true, false, true, true, true, true, false, false, true, true, true, false, false] rfl rfl (any_of HT_.out (by kernel_rfl)) (fun _ _ _ h => h) (Or.inl ⟨by rfl, ?_⟩) ?_ ?_
                rotate_left
                · intro w'
                  go_simp
                  with_reducible rfl
                rotate_left
                · simp only [Act.put, List.setIfInBounds_toArray, List.set_cons_zero, List.set_cons_succ, i64_w, i32_w]
                  rfl
                refine two_ (i := 0) (j := 9) (Ni := some 37) (Nj := some 46) #[true, true, true, true, false, true, true, true, true, false, false, true, true, true, false, false] #[false, true, true, true, false, true, true, true, true, true, false, true, true, true, false, false] rfl rfl rfl rfl (two_of HT_.out (by kernel_rfl)) (by decide) (by decide) (fun K hK => ?_) (fun K hK => ?_)
                · skip
                  refine Kd.R_lit_step (Kd.int .i64) _ 2 ?hg (N := 37) ?hd (xs := ([] : List Int)) (inner := []) (ok := fun _ => True) (okp := fun _ => True) ?hr ?hp (fun _ hk => hk) trivial (Below.refl _ _) (Nat.le_refl _) (by simp) ?_; (case hd => rfl); (case hg => rfl); (case hr => first | (go_simp; done) | (go_simp; rfl)); (case hp => exact (Reps.none _ _))
                  intro ve we ho hb hg_ hnew_
                  have HE := Aside0.mk (Kd.R_lower ho (below_size HS.out))
                  have n1_ := Aside0.mk (below_step HS.out hb)
                  clear HS
                  have HS := n1_
                  clear n1_ hb ho hg_ hnew_
                  refine hK.out _ _ HS.out (fun hHeld => ?_)
                  clear hK K
                  refine norm_ (a' := ?_) ?_ ?_
                  rotate_left
                  · show Act.put _ (some 37) _ = _
                    simp only [Act.put, List.setIfInBounds_toArray, List.set_cons_zero, List.set_cons_succ, i64_w, i32_w]
                    rfl
                  refine two_ (i := 4) (j := 9) (Ni := some 41) (Nj := some 46) #[true, true, true, true, true, true, true, true, true, false, false, true, true, true, false, false] #[true, true, true, true, false, true, true, true, true, true, false, true, true, true, false, false] rfl rfl rfl rfl (two_of HT_.out (by kernel_rfl)) (by decide) (by decide) (fun K hK => ?_) (fun K hK => ?_)
                  · skip
                    refine Kd.R_append_rows_step (Kd.int .i64) (w0 := W) W.heap.size (by rfl) (.tmp 37) (.tmp 40) 22 2 (.int .i64 0) 8 rfl Try.underlying22 info2 rfl (by decide) (by omega) ve ([]) (T1) _ _ _ (fun _ => True) (fun _ => False) rfl rfl ?aO ?aR (fun _ _ h => h) (fun _ h => h.elim) ?aF ?aB ?aS ?aL ?_; (case aR => exact (Kd.C_below HCT.out HS.out)); (case aB => exact HS.out); (case aF => exact (fun _ _ => trivial)); (case aO => exact HE.out); (case aS => exact (below_size HS.out)); (case aL => simp only [List.length_append, List.length_nil, List.length_singleton]; omega)
                    intro vt wa ho hb hg hat
                    have HT := Aside0.mk ho
                    clear HS
                    have HS := Aside0.mk hb
                    clear hb ho hg hat
                    refine hK.out _ _ HS.out (fun hHeld => ?_)
                    clear hK K
                    refine norm_ (a' := ?_) ?_ ?_
                    rotate_left
                    · show Act.put _ (some 41) _ = _
                      simp only [Act.put, List.setIfInBounds_toArray, List.set_cons_zero, List.set_cons_succ, i64_w, i32_w]
                      rfl
                    refine one_ (i := 9) (N := some 46) #[true, true, true, true, true, true, true, true, true, true, false, true, true, true, false, false] rfl rfl (one_of HT_.out (by kernel_rfl)) (by decide) (fun K hK => ?_)
                    refine Kd.R_lit_step (Kd.int .i64) _ 2 ?hg (N := 46) ?hd (xs := ([(rd l0 x6_1)] : List Int)) (inner := [.int .i64 ((rd l0 x6_1))]) (ok := fun _ => True) (okp := fun _ => True) ?hr ?hp (fun _ hk => hk) trivial (Below.refl _ _) (Nat.le_refl _) (by simp) ?_; (case hd => rfl); (case hg => rfl); (case hr => first | (go_simp; done) | (go_simp; rfl)); (case hp => exact (Reps.one (show Kd.M (Kd.int .i64) _ _ _ ((rd l0 x6_1)) [.int .i64 ((rd l0 x6_1))] from rfl) (Reps.none _ _)))
                    intro vl wl ho hb hg_ hnew_
                    obtain ⟨Al, cl, el⟩ := Kd.R_slice ho
                    subst el
                    have n0_ := Aside0.mk (Kd.R_below HT.out hb)
                    clear HT
                    have HT := n0_
                    clear n0_
                    have HL := Aside0.mk (Kd.R_lower ho (below_size HS.out))
                    have n1_ := Aside0.mk (below_step HS.out hb)
                    clear HS
                    have HS := n1_
                    clear n1_ hb ho hg_ hnew_
                    refine hK.out _ _ HS.out (fun hHeld => ?_)
                    clear hK K
                    refine norm_ (a' := ?_) ?_ ?_
                    rotate_left
                    · show Act.put _ (some 46) _ = _
                      simp only [Act.put, List.setIfInBounds_toArray, List.set_cons_zero, List.set_cons_succ, i64_w, i32_w]
                      rfl
                    refine one_ (i := 10) (N := some 47) #[true, true, true, true, true, true, true, true, true, true, true, true, true, true, false, false] rfl rfl (one_of HT_.out (by kernel_rfl)) (by decide) (fun K hK => ?_)
                    refine Kd.R_append_rows_step (Kd.int .i64) (w0 := W) W.heap.size (by rfl) (.tmp 41) (.tmp 46) 22 2 (.int .i64 0) 8 rfl Try.underlying22 info2 rfl (by decide) (by omega) vt ([] ++ T1) ([(rd l0 x6_1)]) _ _ _ (fun _ => True) (fun _ => False) rfl rfl ?aO ?aR (fun _ _ h => h) (fun _ h => h.elim) ?aF ?aB ?aS ?aL ?_; (case aR => exact (Kd.R_reads' HL.out).2.2); (case aB => exact HS.out); (case aF => exact (fun _ _ => trivial)); (case aO => exact HT.out); (case aS => exact (below_size HS.out)); (case aL => simp only [List.length_append, List.length_nil, List.length_singleton]; omega)
                    intro vu wa ho hb hg hat
                    have HU := Aside0.mk ho
                    clear HS
                    have HS := Aside0.mk hb
                    clear hb ho hg hat
                    refine hK.out _ _ HS.out (fun hHeld => ?_)
                    clear hK K
                    refine norm_ (a' := ?_) ?_ ?_
                    rotate_left
                    · show Act.put _ (some 47) _ = _
                      simp only [Act.put, List.setIfInBounds_toArray, List.set_cons_zero, List.set_cons_succ, i64_w, i32_w]
                      rfl
                    refine one_ (i := 14) (N := some 51) #[true, true, true, true, true, true, true, true, true, true, true, true, true, true, true, false] rfl rfl (one_of HT_.out (by kernel_rfl)) (by decide) (fun K hK => ?_)
                    refine Kd.R_append_rows_step (Kd.int .i64) (w0 := W) W.heap.size (by rfl) (.tmp 47) (.tmp 50) 22 2 (.int .i64 0) 8 rfl Try.underlying22 info2 rfl (by decide) (by omega) vu ([] ++ T1 ++ [(rd l0 x6_1)]) (D1) _ _ _ (fun _ => True) (fun _ => False) rfl rfl ?aO ?aR (fun _ _ h => h) (fun _ h => h.elim) ?aF ?aB ?aS ?aL ?_; (case aR => exact (Kd.C_below HCD.out HS.out)); (case aB => exact HS.out); (case aF => exact (fun _ _ => trivial)); (case aO => exact HU.out); (case aS => exact (below_size HS.out)); (case aL => simp only [List.length_append, List.length_nil, List.length_singleton]; omega)
                    intro vz wa ho hb hg hat
                    have HZ := Aside0.mk ho
                    clear HS
                    have HS := Aside0.mk hb
                    clear hb ho hg hat
                    refine hK.out _ _ HS.out (fun hHeld => ?_)
                    clear hK K
                    refine norm_ (a' := ?_) ?_ ?_
                    rotate_left
                    · show Act.put _ (some 51) _ = _
                      simp only [Act.put, List.setIfInBounds_toArray, List.set_cons_zero, List.set_cons_succ, i64_w, i32_w]
                      rfl
                    refine pure_ (i := 15) (N := some 5) (v := ?_) (a' := ?_) #[true, true, true, true, true, true, true, true, true, true, true, true, true, true, true, true] rfl rfl (any_of HT_.out (by kernel_rfl)) (fun _ _ _ h => h) (Or.inl ⟨by rfl, ?_⟩) ?_ ?_
                    rotate_left
                    · intro w'
                      go_simp
                      with_reducible rfl
                    rotate_left
                    · simp only [Act.put, List.setIfInBounds_toArray, List.set_cons_zero, List.set_cons_succ, i64_w, i32_w]
                      rfl
                    refine done_ (done_of HT_.out (by kernel_rfl)) ?_
                    obtain ⟨Az, cz, ez⟩ := Kd.R_slice HZ.out
                    subst ez
                    go_wp2
                    go_roundg k2
                    case measure => have := HK1.out; have := HK2.out; omega
                    case rel => exact ⟨[] ++ T1 ++ [(rd l0 x6_1)] ++ D1, Az, cz, _, rfl, rfl, (by first | exact ⟨H'⟩ | (have e_ : wrap64 (x6_1 + 1) = x6_1 + 1 := (by unfold wrap64; omega); rw [e_] at H'; exact ⟨H'⟩)), ⟨by have := HK1.out; have := HK2.out; omega⟩, ⟨Kd.R_lower HZ.out (below_size HBW.out)⟩, ⟨below_step HBW.out HS.out⟩⟩
                  · skip
                    refine Kd.R_lit_step (Kd.int .i64) _ 2 ?hg (N := 46) ?hd (xs := ([(rd l0 x6_1)] : List Int)) (inner := [.int .i64 ((rd l0 x6_1))]) (ok := fun _ => True) (okp := fun _ => True) ?hr ?hp (fun _ hk => hk) trivial (Below.refl _ _) (Nat.le_refl _) (by simp) ?_; (case hd => rfl); (case hg => rfl); (case hr => first | (go_simp; done) | (go_simp; rfl)); (case hp => exact (Reps.one (show Kd.M (Kd.int .i64) _ _ _ ((rd l0 x6_1)) [.int .i64 ((rd l0 x6_1))] from rfl) (Reps.none _ _)))
                    intro vl wl ho hb hg_ hnew_
                    obtain ⟨Al, cl, el⟩ := Kd.R_slice ho
                    subst el
                    have NE := Aside0.mk (ne_earlier HE.out hnew_)
                    have n0_ := Aside0.mk (Kd.R_below HE.out hb)
                    clear HE
                    have HE := n0_
                    clear n0_
                    have HL := Aside0.mk (Kd.R_lower ho (below_size HS.out))
                    have n1_ := Aside0.mk (below_step HS.out hb)
                    clear HS
                    have HS := n1_
                    clear n1_ hb ho hg_ hnew_
                    refine hK.out _ _ HS.out (fun hHeld => ?_)
                    clear hK K
                    refine norm_ (a' := ?_) ?_ ?_
                    rotate_left
                    · show Act.put _ (some 46) _ = _
                      simp only [Act.put, List.setIfInBounds_toArray, List.set_cons_zero, List.set_cons_succ, i64_w, i32_w]
                      rfl
                    refine one_ (i := 4) (N := some 41) #[true, true, true, true, true, true, true, true, true, true, false, true, true, true, false, false] rfl rfl (one_of HT_.out (by kernel_rfl)) (by decide) (fun K hK => ?_)
                    refine Kd.R_append_rows_step (Kd.int .i64) (w0 := W) W.heap.size (by rfl) (.tmp 37) (.tmp 40) 22 2 (.int .i64 0) 8 rfl Try.underlying22 info2 rfl (by decide) (by omega) ve ([]) (T1) _ _ _ (fun _ => True) (fun _ => False) rfl rfl ?aO ?aR (fun _ _ h => h) (fun _ h => h.elim) ?aF ?aB ?aS ?aL ?_; (case aR => exact (Kd.C_below HCT.out HS.out)); (case aB => exact HS.out); (case aF => exact (fun _ _ => trivial)); (case aO => exact HE.out); (case aS => exact (below_size HS.out)); (case aL => simp only [List.length_append, List.length_nil, List.length_singleton]; omega)
                    intro vt wa ho hb hg hat
                    have n2_ := Aside0.mk (Kd.R_grown2 HL.out rfl hg (fun k_ hk_ => NE.out k_ hk_))
                    clear HL
                    have HL := n2_
                    clear n2_ NE
                    have HT := Aside0.mk ho
                    clear HS
                    have HS := Aside0.mk hb
                    clear hb ho hg hat
                    refine hK.out _ _ HS.out (fun hHeld => ?_)
                    clear hK K
                    refine norm_ (a' := ?_) ?_ ?_
                    rotate_left
                    · show Act.put _ (some 41) _ = _
                      simp only [Act.put, List.setIfInBounds_toArray, List.set_cons_zero, List.set_cons_succ, i64_w, i32_w]
                      rfl
                    refine one_ (i := 10) (N := some 47) #[true, true, true, true, true, true, true, true, true, true, true, true, true, true, false, false] rfl rfl (one_of HT_.out (by kernel_rfl)) (by decide) (fun K hK => ?_)
                    refine Kd.R_append_rows_step (Kd.int .i64) (w0 := W) W.heap.size (by rfl) (.tmp 41) (.tmp 46) 22 2 (.int .i64 0) 8 rfl Try.underlying22 info2 rfl (by decide) (by omega) vt ([] ++ T1) ([(rd l0 x6_1)]) _ _ _ (fun _ => True) (fun _ => False) rfl rfl ?aO ?aR (fun _ _ h => h) (fun _ h => h.elim) ?aF ?aB ?aS ?aL ?_; (case aR => exact (Kd.R_reads' HL.out).2.2); (case aB => exact HS.out); (case aF => exact (fun _ _ => trivial)); (case aO => exact HT.out); (case aS => exact (below_size HS.out)); (case aL => simp only [List.length_append, List.length_nil, List.length_singleton]; omega)
                    intro vu wa ho hb hg hat
                    have HU := Aside0.mk ho
                    clear HS
                    have HS := Aside0.mk hb
                    clear hb ho hg hat
                    refine hK.out _ _ HS.out (fun hHeld => ?_)
                    clear hK K
                    refine norm_ (a' := ?_) ?_ ?_
                    rotate_left
                    · show Act.put _ (some 47) _ = _
                      simp only [Act.put, List.setIfInBounds_toArray, List.set_cons_zero, List.set_cons_succ, i64_w, i32_w]
                      rfl
                    refine one_ (i := 14) (N := some 51) #[true, true, true, true, true, true, true, true, true, true, true, true, true, true, true, false] rfl rfl (one_of HT_.out (by kernel_rfl)) (by decide) (fun K hK => ?_)
                    refine Kd.R_append_rows_step (Kd.int .i64) (w0 := W) W.heap.size (by rfl) (.tmp 47) (.tmp 50) 22 2 (.int .i64 0) 8 rfl Try.underlying22 info2 rfl (by decide) (by omega) vu ([] ++ T1 ++ [(rd l0 x6_1)]) (D1) _ _ _ (fun _ => True) (fun _ => False) rfl rfl ?aO ?aR (fun _ _ h => h) (fun _ h => h.elim) ?aF ?aB ?aS ?aL ?_; (case aR => exact (Kd.C_below HCD.out HS.out)); (case aB => exact HS.out); (case aF => exact (fun _ _ => trivial)); (case aO => exact HU.out); (case aS => exact (below_size HS.out)); (case aL => simp only [List.length_append, List.length_nil, List.length_singleton]; omega)
                    intro vz wa ho hb hg hat
                    have HZ := Aside0.mk ho
                    clear HS
                    have HS := Aside0.mk hb
                    clear hb ho hg hat
                    refine hK.out _ _ HS.out (fun hHeld => ?_)
                    clear hK K
                    refine norm_ (a' := ?_) ?_ ?_
                    rotate_left
                    · show Act.put _ (some 51) _ = _
                      simp only [Act.put, List.setIfInBounds_toArray, List.set_cons_zero, List.set_cons_succ, i64_w, i32_w]
                      rfl
                    refine pure_ (i := 15) (N := some 5) (v := ?_) (a' := ?_) #[true, true, true, true, true, true, true, true, true, true, true, true, true, true, true, true] rfl rfl (any_of HT_.out (by kernel_rfl)) (fun _ _ _ h => h) (Or.inl ⟨by rfl, ?_⟩) ?_ ?_
                    rotate_left
                    · intro w'
                      go_simp
                      with_reducible rfl
                    rotate_left
                    · simp only [Act.put, List.setIfInBounds_toArray, List.set_cons_zero, List.set_cons_succ, i64_w, i32_w]
                      rfl
                    refine done_ (done_of HT_.out (by kernel_rfl)) ?_
                    obtain ⟨Az, cz, ez⟩ := Kd.R_slice HZ.out
                    subst ez
                    go_wp2
                    go_roundg k2
                    case measure => have := HK1.out; have := HK2.out; omega
                    case rel => exact ⟨[] ++ T1 ++ [(rd l0 x6_1)] ++ D1, Az, cz, _, rfl, rfl, (by first | exact ⟨H'⟩ | (have e_ : wrap64 (x6_1 + 1) = x6_1 + 1 := (by unfold wrap64; omega); rw [e_] at H'; exact ⟨H'⟩)), ⟨by have := HK1.out; have := HK2.out; omega⟩, ⟨Kd.R_lower HZ.out (below_size HBW.out)⟩, ⟨below_step HBW.out HS.out⟩⟩
                · skip
                  refine Kd.R_lit_step (Kd.int .i64) _ 2 ?hg (N := 46) ?hd (xs := ([(rd l0 x6_1)] : List Int)) (inner := [.int .i64 ((rd l0 x6_1))]) (ok := fun _ => True) (okp := fun _ => True) ?hr ?hp (fun _ hk => hk) trivial (Below.refl _ _) (Nat.le_refl _) (by simp) ?_; (case hd => rfl); (case hg => rfl); (case hr => first | (go_simp; done) | (go_simp; rfl)); (case hp => exact (Reps.one (show Kd.M (Kd.int .i64) _ _ _ ((rd l0 x6_1)) [.int .i64 ((rd l0 x6_1))] from rfl) (Reps.none _ _)))
                  intro vl wl ho hb hg_ hnew_
                  obtain ⟨Al, cl, el⟩ := Kd.R_slice ho
                  subst el
                  have HL := Aside0.mk (Kd.R_lower ho (below_size HS.out))
                  have n1_ := Aside0.mk (below_step HS.out hb)
                  clear HS
                  have HS := n1_
                  clear n1_ hb ho hg_ hnew_
                  refine hK.out _ _ HS.out (fun hHeld => ?_)
                  clear hK K
                  refine norm_ (a' := ?_) ?_ ?_
                  rotate_left
                  · show Act.put _ (some 46) _ = _
                    simp only [Act.put, List.setIfInBounds_toArray, List.set_cons_zero, List.set_cons_succ, i64_w, i32_w]
                    rfl
                  refine one_ (i := 0) (N := some 37) #[true, true, true, true, false, true, true, true, true, true, false, true, true, true, false, false] rfl rfl (one_of HT_.out (by kernel_rfl)) (by decide) (fun K hK => ?_)
                  refine Kd.R_lit_step (Kd.int .i64) _ 2 ?hg (N := 37) ?hd (xs := ([] : List Int)) (inner := []) (ok := fun _ => True) (okp := fun _ => True) ?hr ?hp (fun _ hk => hk) trivial (Below.refl _ _) (Nat.le_refl _) (by simp) ?_; (case hd => rfl); (case hg => rfl); (case hr => first | (go_simp; done) | (go_simp; rfl)); (case hp => exact (Reps.none _ _))
                  intro ve we ho hb hg_ hnew_
                  have NE := Aside0.mk (ne_later HL.out hnew_)
                  have n0_ := Aside0.mk (Kd.R_below HL.out hb)
                  clear HL
                  have HL := n0_
                  clear n0_
                  have HE := Aside0.mk (Kd.R_lower ho (below_size HS.out))
                  have n1_ := Aside0.mk (below_step HS.out hb)
                  clear HS
                  have HS := n1_
                  clear n1_ hb ho hg_ hnew_
                  refine hK.out _ _ HS.out (fun hHeld => ?_)
                  clear hK K
                  refine norm_ (a' := ?_) ?_ ?_
                  rotate_left
                  · show Act.put _ (some 37) _ = _
                    simp only [Act.put, List.setIfInBounds_toArray, List.set_cons_zero, List.set_cons_succ, i64_w, i32_w]
                    rfl
                  refine one_ (i := 4) (N := some 41) #[true, true, true, true, true, true, true, true, true, true, false, true, true, true, false, false] rfl rfl (one_of HT_.out (by kernel_rfl)) (by decide) (fun K hK => ?_)
                  refine Kd.R_append_rows_step (Kd.int .i64) (w0 := W) W.heap.size (by rfl) (.tmp 37) (.tmp 40) 22 2 (.int .i64 0) 8 rfl Try.underlying22 info2 rfl (by decide) (by omega) ve ([]) (T1) _ _ _ (fun _ => True) (fun _ => False) rfl rfl ?aO ?aR (fun _ _ h => h) (fun _ h => h.elim) ?aF ?aB ?aS ?aL ?_; (case aR => exact (Kd.C_below HCT.out HS.out)); (case aB => exact HS.out); (case aF => exact (fun _ _ => trivial)); (case aO => exact HE.out); (case aS => exact (below_size HS.out)); (case aL => simp only [List.length_append, List.length_nil, List.length_singleton]; omega)
                  intro vt wa ho hb hg hat
                  have n2_ := Aside0.mk (Kd.R_grown2 HL.out rfl hg (fun k_ hk_ => NE.out k_ hk_))
                  clear HL
                  have HL := n2_
                  clear n2_ NE
                  have HT := Aside0.mk ho
                  clear HS
                  have HS := Aside0.mk hb
                  clear hb ho hg hat
                  refine hK.out _ _ HS.out (fun hHeld => ?_)
                  clear hK K
                  refine norm_ (a' := ?_) ?_ ?_
                  rotate_left
                  · show Act.put _ (some 41) _ = _
                    simp only [Act.put, List.setIfInBounds_toArray, List.set_cons_zero, List.set_cons_succ, i64_w, i32_w]
                    rfl
                  refine one_ (i := 10) (N := some 47) #[true, true, true, true, true, true, true, true, true, true, true, true, true, true, false, false] rfl rfl (one_of HT_.out (by kernel_rfl)) (by decide) (fun K hK => ?_)
                  refine Kd.R_append_rows_step (Kd.int .i64) (w0 := W) W.heap.size (by rfl) (.tmp 41) (.tmp 46) 22 2 (.int .i64 0) 8 rfl Try.underlying22 info2 rfl (by decide) (by omega) vt ([] ++ T1) ([(rd l0 x6_1)]) _ _ _ (fun _ => True) (fun _ => False) rfl rfl ?aO ?aR (fun _ _ h => h) (fun _ h => h.elim) ?aF ?aB ?aS ?aL ?_; (case aR => exact (Kd.R_reads' HL.out).2.2); (case aB => exact HS.out); (case aF => exact (fun _ _ => trivial)); (case aO => exact HT.out); (case aS => exact (below_size HS.out)); (case aL => simp only [List.length_append, List.length_nil, List.length_singleton]; omega)
                  intro vu wa ho hb hg hat
                  have HU := Aside0.mk ho
                  clear HS
                  have HS := Aside0.mk hb
                  clear hb ho hg hat
                  refine hK.out _ _ HS.out (fun hHeld => ?_)
                  clear hK K
                  refine norm_ (a' := ?_) ?_ ?_
                  rotate_left
                  · show Act.put _ (some 47) _ = _
                    simp only [Act.put, List.setIfInBounds_toArray, List.set_cons_zero, List.set_cons_succ, i64_w, i32_w]
                    rfl
                  refine one_ (i := 14) (N := some 51) #[true, true, true, true, true, true, true, true, true, true, true, true, true, true, true, false] rfl rfl (one_of HT_.out (by kernel_rfl)) (by decide) (fun K hK => ?_)
                  refine Kd.R_append_rows_step (Kd.int .i64) (w0 := W) W.heap.size (by rfl) (.tmp 47) (.tmp 50) 22 2 (.int .i64 0) 8 rfl Try.underlying22 info2 rfl (by decide) (by omega) vu ([] ++ T1 ++ [(rd l0 x6_1)]) (D1) _ _ _ (fun _ => True) (fun _ => False) rfl rfl ?aO ?aR (fun _ _ h => h) (fun _ h => h.elim) ?aF ?aB ?aS ?aL ?_; (case aR => exact (Kd.C_below HCD.out HS.out)); (case aB => exact HS.out); (case aF => exact (fun _ _ => trivial)); (case aO => exact HU.out); (case aS => exact (below_size HS.out)); (case aL => simp only [List.length_append, List.length_nil, List.length_singleton]; omega)
                  intro vz wa ho hb hg hat
                  have HZ := Aside0.mk ho
                  clear HS
                  have HS := Aside0.mk hb
                  clear hb ho hg hat
                  refine hK.out _ _ HS.out (fun hHeld => ?_)
                  clear hK K
                  refine norm_ (a' := ?_) ?_ ?_
                  rotate_left
                  · show Act.put _ (some 51) _ = _
                    simp only [Act.put, List.setIfInBounds_toArray, List.set_cons_zero, List.set_cons_succ, i64_w, i32_w]
                    rfl
                  refine pure_ (i := 15) (N := some 5) (v := ?_) (a' := ?_) #[true, true, true, true, true, true, true, true, true, true, true, true, true, true, true, true] rfl rfl (any_of HT_.out (by kernel_rfl)) (fun _ _ _ h => h) (Or.inl ⟨by rfl, ?_⟩) ?_ ?_
                  rotate_left
                  · intro w'
                    go_simp
                    with_reducible rfl
                  rotate_left
                  · simp only [Act.put, List.setIfInBounds_toArray, List.set_cons_zero, List.set_cons_succ, i64_w, i32_w]
                    rfl
                  refine done_ (done_of HT_.out (by kernel_rfl)) ?_
                  obtain ⟨Az, cz, ez⟩ := Kd.R_slice HZ.out
                  subst ez
                  go_wp2
                  go_roundg k2
                  case measure => have := HK1.out; have := HK2.out; omega
                  case rel => exact ⟨[] ++ T1 ++ [(rd l0 x6_1)] ++ D1, Az, cz, _, rfl, rfl, (by first | exact ⟨H'⟩ | (have e_ : wrap64 (x6_1 + 1) = x6_1 + 1 := (by unfold wrap64; omega); rw [e_] at H'; exact ⟨H'⟩)), ⟨by have := HK1.out; have := HK2.out; omega⟩, ⟨Kd.R_lower HZ.out (below_size HBW.out)⟩, ⟨below_step HBW.out HS.out⟩⟩
              · rw [if_neg ct] at H
                exact absurd H (by simp)
      · rw [if_neg c6] at H
        have c6b0 : decide (x6_1 < (l0.length : Int)) = false := decide_eq_false c6
        clear c6
        obtain rfl := Option.some.inj H
        go_wp2
        repeat (go_quiet (fail); try go_wp2)
        go_ret2
        exact ⟨_, rfl, (by (with_reducible repeat (first | apply Kd.R_alloc | apply Kd.R_drewN | apply Kd.R_drew)); exact HO.out), by repeat (first | (with_reducible first | exact HB.out | apply below_alloc | apply pw_below_drewN | apply below_drew1) | exact HB.out)⟩
set_option maxHeartbeats 8000000 in
set_option maxRecDepth 100000 in
theorem spec_SortNumbers_no (k : Nat) (A0 : Option Addr) (c0 : Nat) (l0 : List Int) (t : Int) (w : World) (hr0 : Kd.C (Kd.int .i64) w A0 l0.length l0) (hc0 : l0.length ≤ c0) (hv : spec_l01Values.f k l0 = some t) (ht : t ≠ 0) :
    Calls Try.prog 5 #[.slice A0 l0.length c0] w fun e w' => ∃ v0_ : Value, e = .returned (.tuple #[v0_, .int .i64 t]) ∧ Kd.R (Kd.int .i64) 2 w' w.heap.size (fun _ => True) v0_ [] ∧ Below w.heap.size w w' := by
  have HR0 := Aside0.mk hr0
  have HC0 := Aside0.mk hc0
  have A2 := Aside0.mk hv
  have HB := Aside0.mk (Below.refl w.heap.size w)
  have c4b0 : (t == 0) = false := beq_eq_false_iff_ne.mpr ht
  have c4b1 : (t != 0) = true := bne_iff_ne.mpr ht
  clear hr0 hc0 hv ht
  go_enter Try.func5, Try.ntmps5
  go_wp2_with (first | ((with_reducible refine gate_callee (f := 20) rfl ?_); refine goesL_ (some 9) rfl rfl Try.func20 (by kernel_rfl) rfl #[.slice A0 l0.length c0] rfl (by (try simp only [List.map_toArray, List.map_cons, List.map_nil]); first | done | rfl | (simp only [List.length_drop, List.length_take]; rfl) | (go_simp; done) | (simp; done) | (simp; rfl)) ?_; (with_reducible refine (spec_l01Values.calls k _ _ l0 t _ ?side1 ?side2 A2.out).mono ?_); (case side1 => repeat (first | exact (Kd.C_below HR0.out (by repeat (first | (with_reducible first | exact HB.out | apply below_alloc | apply pw_below_drewN | apply below_drew1) | exact HB.out))) | (with_reducible refine Kd.C_alloc ?_ _) | (with_reducible refine Kd.C_drewN ?_ _) | (with_reducible refine Kd.C_drew ?_))); (case side2 => exact HC0.out); rintro e w2 ⟨rfl, hd⟩; have hb := drawn_below hd; clear hd; refine ⟨_, rfl, ?_⟩; have nb_ := Aside0.mk (below_step (by repeat (first | (with_reducible first | exact HB.out | apply below_alloc | apply pw_below_drewN | apply below_drew1) | exact HB.out)) hb); clear HB; have HB := nb_; clear nb_ hb))
  go_ret2
  exact ⟨_, rfl, Kd.R_nil _ _ _ _ _, by repeat (first | (with_reducible first | exact HB.out | apply below_alloc | apply pw_below_drewN | apply below_drew1) | exact HB.out)⟩


theorem sortS1_ev (l out r : List Int) (i : Nat) (c : Int) (hi : i < l.length) (hc : rd l (i : Int) = c) (hl : l.length ≤ 1000000000) (ho : out.length ≤ 1000000000) (hS : Asc out) (hr : Ev (fun k => sortS0 k l (ins c out) (wrap64 ((i : Int) + 1))) r) :
    ∀ (B : List Int) (n : Nat), out.drop n = B → n ≤ out.length → (∀ y ∈ out.take n, y ≤ c) → Ev (fun k => sortS1 k l out (i : Int) (n : Int)) r := by
  have tail : ∀ (n : Nat), n ≤ out.length → (∀ y ∈ out.take n, y ≤ c) → (∀ y, (out.drop n).head? = some y → c < y) → [] ++ out.take ((n : Int)).toNat ++ [rd l (i : Int)] ++ out.drop ((n : Int)).toNat = ins c out := by
    intro n hn h1 h2
    have := ins_split c (out.take n) (out.drop n) h1 h2
    rw [List.take_append_drop] at this
    rw [this, hc, Int.toNat_natCast]; simp
  intro B
  induction B with
  | nil =>
    intro n h hn h1
    have := drop_nil h
    refine Ev.step (fun k => sortS1.eq_2 ..) (ev_neg (by omega) (ev_pos ⟨by omega, by omega, by omega, by omega, by omega⟩ ?_))
    rw [tail n hn h1 (by rw [h]; simp)]
    exact hr
  | cons y B ih =>
    intro n h hn h1
    obtain ⟨g1, g2, g3⟩ := rd_drop h
    refine Ev.step (fun k => sortS1.eq_2 ..) (ev_pos (by omega) (ev_pos ⟨by omega, by omega, by omega⟩ ?_))
    rw [g2, hc]
    by_cases a : y ≤ c
    · refine ev_pos a ?_
      rw [w64 (n := (n : Int) + 1) (by omega) (by omega)]
      refine ih (n + 1) g3 (by omega) ?_
      rw [snoc_take h]
      intro z hz
      rcases List.mem_append.1 hz with hz | hz
      · exact h1 z hz
      · simp at hz; omega
    · refine ev_neg a (ev_pos ⟨by omega, by omega, by omega, by omega, by omega⟩ ?_)
      have e := tail n hn h1 (by rw [h]; intro z hz; simp at hz; omega)
      rw [hc] at e
      rw [e]
      exact hr
theorem sortS0_ev (l : List Int) (hl : l.length ≤ 1000000000) : ∀ (R : List Int) (i : Nat), l.drop i = R → i ≤ l.length → Ev (fun k => sortS0 k l (srt (l.take i)) (i : Int)) (srt l) := by
  intro R
  induction R with
  | nil =>
    intro i h hi
    have := drop_nil h
    refine Ev.step (fun k => sortS0.eq_2 ..) (ev_neg (by omega) (ev_ret ?_))
    rw [List.take_of_length_le this]
  | cons c R ih =>
    intro i h hi
    obtain ⟨h1, h2, h3⟩ := rd_drop h
    have e := ih (i + 1) h3 (by omega)
    rw [snoc_take h, srt_snoc] at e
    have hlen : (srt (l.take i)).length = i := by rw [(srt_perm _).length_eq, List.length_take]; omega
    refine Ev.step (fun k => sortS0.eq_2 ..) (ev_pos (by omega) ?_)
    exact sortS1_ev l (srt (l.take i)) (srt l) i c h1 h2 hl (by omega) (srt_asc _) (by rw [w64 (by omega) (by omega)]; exact e) _ 0 rfl (by omega) (by simp)
theorem spec_SortNumbers_own (l : List Int) (hl : l.length ≤ 1000000) : ∀ (A : Option Addr) (c : Nat) (w : World), Kd.C (Kd.int .i64) w A l.length l → l.length ≤ c →
    Calls Try.prog 5 #[.slice A l.length c] w fun e w' => ∃ v0_ : Value, e = .returned (.tuple #[v0_, .int .i64 (sortT l)]) ∧ Kd.R (Kd.int .i64) 2 w' w.heap.size (fun _ => True) v0_ (sortM l) ∧ Below w.heap.size w w' := by
  intro A c w hC hc
  obtain ⟨K1, h1⟩ := spec_l01Values_ev l (by omega)
  unfold sortM
  by_cases e : sortT l = 0
  · obtain ⟨K2, h2⟩ := sortS0_ev l (by omega) l 0 rfl (by omega)
    have h1 := h1 (K1 + K2) (by omega)
    have h2 := h2 (K1 + K2) (by omega)
    rw [e] at h1
    rw [e, if_pos rfl]
    exact spec_SortNumbers_ok (K1 + K2) A c l (srt l) w hC hc hl h1 h2
  · rw [if_neg e]
    exact spec_SortNumbers_no K1 A c l (sortT l) w hC hc (h1 _ (Nat.le_refl _)) e

/-! ### lists marked and held -/
theorem set_mid {α : Type} (P R : List α) (c m : α) : (P ++ c :: R).set P.length m = P ++ m :: R := by
  rw [List.set_append_right _ _ (by omega)]; simp
theorem drop_mid {α : Type} (P R : List α) : (P ++ R).drop P.length = R := by simp
def mkI (m : Int) : Nat → List Int
  | 0 => []
  | n + 1 => m :: mkI (m + 1) n
theorem mkI_len : ∀ (n : Nat) (m : Int), (mkI m n).length = n
  | 0, _ => rfl
  | n + 1, m => by simp [mkI, mkI_len n]
theorem eqInt64S_l0 (l : List Int) (hl : l.length ≤ 4611686018427387904) : ∀ (R : List Int) (i : Nat), l.drop i = R → Ev (fun k => laws_eqInt64S.l0 k l l i) true := by
  intro R
  induction R with
  | nil =>
    intro i h
    have := drop_nil h
    exact Ev.step (fun k => laws_eqInt64S.l0.eq_2 ..) (ev_neg (by omega) (Ev.now _))
  | cons c R ih =>
    intro i h
    obtain ⟨h1, h2, h3⟩ := rd_drop h
    refine Ev.step (fun k => laws_eqInt64S.l0.eq_2 ..) (ev_pos (by omega) (ev_pos (by omega) (ev_pos (by omega) (ev_pos rfl ?_))))
    rw [w64 (n := (i : Int) + 1) (by omega) (by omega)]
    exact ih (i + 1) h3
theorem eqInt64S_ev (l : List Int) (hl : l.length ≤ 4611686018427387904) : Ev (fun k => laws_eqInt64S.f k l l) true := by
  have h := eqInt64S_l0 l hl l 0 rfl
  exact ev_pos rfl h
theorem markInt64S_l0 : ∀ (R P : List Int) (m : Int), 0 ≤ m → m + R.length ≤ 4611686018427387904 → P.length + R.length ≤ 4611686018427387904 →
    Ev (fun k => laws_markInt64S.l0 k (P ++ R) m P.length) (m + R.length, P ++ mkI m R.length) := by
  intro R
  induction R with
  | nil =>
    intro P m h0 h1 h2
    refine Ev.step (fun k => laws_markInt64S.l0.eq_2 ..) (ev_neg (by simp) (ev_ret ?_))
    simp [mkI]
  | cons c R ih =>
    intro P m h0 h1 h2
    simp only [List.length_cons] at h1 h2
    refine Ev.step (fun k => laws_markInt64S.l0.eq_2 ..) (ev_pos (by simp; omega) (ev_pos (by omega) ?_))
    have := ih (P ++ [m]) (m + 1) (by omega) (by omega) (by simp; omega)
    rw [w64 (n := m + 1) (by omega) (by omega), w64 (n := (P.length : Int) + 1) (by omega) (by omega), Int.toNat_natCast, set_mid]
    simp only [List.length_append, List.length_singleton, List.append_assoc, List.singleton_append] at this
    rw [show m + ((c :: R).length : Int) = m + 1 + (R.length : Int) by simp; omega]
    exact this
theorem markInt64S_ev (l : List Int) {m : Int} (h0 : 0 ≤ m) (h1 : m + l.length ≤ 4611686018427387904) : Ev (fun k => laws_markInt64S.f k l m) (m + l.length, mkI m l.length) := by
  have := markInt64S_l0 l [] m h0 h1 (by simp; omega)
  have h : Ev (fun k => laws_markInt64S.l0 k l m 0) (m + l.length, mkI m l.length) := by simpa using this
  exact h
theorem heldInt64S_l0 : ∀ (n : Nat) (P : List Int) (m : Int), 0 ≤ m → m + n ≤ 4611686018427387904 → P.length + n ≤ 4611686018427387904 →
    Ev (fun k => laws_heldInt64S.l0 k (P ++ mkI m n) m P.length) (m + n) := by
  intro n
  induction n with
  | zero =>
    intro P m h0 h1 h2
    exact Ev.step (fun k => laws_heldInt64S.l0.eq_2 ..) (ev_neg (by simp [mkI]) (ev_ret (by simp)))
  | succ n ih =>
    intro P m h0 h1 h2
    obtain ⟨k1, k2, k3⟩ := rd_drop (L := P ++ mkI m (n + 1)) (i := P.length) (drop_mid P _)
    refine Ev.step (fun k => laws_heldInt64S.l0.eq_2 ..) (ev_pos (by omega) (ev_pos (by omega) (ev_pos k2 ?_)))
    have := ih (P ++ [m]) (m + 1) (by omega) (by omega) (by simp; omega)
    rw [w64 (n := m + 1) (by omega) (by omega), w64 (n := (P.length : Int) + 1) (by omega) (by omega)]
    simp only [List.length_append, List.length_singleton, List.append_assoc, List.singleton_append] at this
    rw [show m + ((n + 1 : Nat) : Int) = m + 1 + (n : Int) by omega]
    exact this
theorem heldInt64S_ev {n : Nat} {m : Int} (h0 : 0 ≤ m) (h1 : m + n ≤ 4611686018427387904) : Ev (fun k => laws_heldInt64S.f k (mkI m n) m) (m + n) := by
  have := heldInt64S_l0 n [] m h0 h1 (by simp; omega)
  have h : Ev (fun k => laws_heldInt64S.l0 k (mkI m n) m 0) (m + n) := by simpa using this
  exact h
/-! #### the same of strings -/
/-! ### slices laid out with room behind -/
theorem room_some (n : Nat) (h : n ≤ 1000000000) : ∃ t, laws_roomBehind.f (n : Int) = some t ∧ 0 ≤ t ∧ t ≤ 1000000000 := by
  unfold laws_roomBehind.f
  split
  · exact ⟨_, rfl, by omega, by omega⟩
  · split
    · exact ⟨_, rfl, by omega, by omega⟩
    · exact ⟨_, rfl, by omega, by omega⟩
theorem take_set_ge {α : Type} (x : List α) (n j : Nat) (v : α) (h : n ≤ j) : (x.set j v).take n = x.take n := by
  rw [List.take_set, List.set_eq_of_length_le (by rw [List.length_take]; omega)]
theorem take_set_next {α : Type} (x l : List α) (i : Nat) (c : α) (hi : i < x.length) (hc : l[i]? = some c) (h : x.take i = l.take i) : (x.set i c).take (i + 1) = l.take (i + 1) := by
  obtain ⟨y, hy⟩ : ∃ y, x[i]? = some y := ⟨x[i], List.getElem?_eq_getElem hi⟩
  have hl : (x.set i c)[i]? = some c := by rw [List.getElem?_set_self hi]
  rw [List.take_add_one, List.take_add_one, hl, hc, take_set_ge _ _ _ _ (Nat.le_refl i), h]

theorem toInt64SF_l1 (l : List Int) (hl : l.length ≤ 1000000000) : ∀ (d : Nat) (x : List Int) (j : Nat), x.length - j = d → x.length ≤ 3000000000 → l.length ≤ j → j ≤ x.length → x.take l.length = l →
    ∃ L, Ev (fun k => laws_toInt64SF.l1 k l x (j : Int)) L ∧ L.length = x.length ∧ L.take l.length = l := by
  intro d
  induction d with
  | zero =>
    intro x j hd hx hj hjx ht
    exact ⟨x, Ev.step (fun k => laws_toInt64SF.l1.eq_2 ..) (ev_neg (by omega) (ev_pos (by omega) (ev_pos (by omega) (Ev.now _)))), rfl, ht⟩
  | succ d ih =>
    intro x j hd hx hj hjx ht
    obtain ⟨L, e, h1, h2⟩ := ih (x.set j (-7000000000000000101)) (j + 1) (by rw [List.length_set]; omega) (by rw [List.length_set]; omega) (by omega) (by rw [List.length_set]; omega) (by rw [take_set_ge _ _ _ _ hj, ht])
    refine ⟨L, Ev.step (fun k => laws_toInt64SF.l1.eq_2 ..) (ev_pos (by omega) (ev_pos (by omega) ?_)), by rw [h1, List.length_set], h2⟩
    rw [Int.toNat_natCast, w64 (n := (j : Int) + 1) (by omega) (by omega)]
    exact e
theorem toInt64SF_l0 (l : List Int) (hl : l.length ≤ 1000000000) : ∀ (R : List Int) (i : Nat) (x : List Int), l.drop i = R → i ≤ l.length → l.length ≤ x.length → x.length ≤ 3000000000 → x.take i = l.take i →
    ∃ L, Ev (fun k => laws_toInt64SF.l0 k l x (i : Int)) L ∧ L.length = x.length ∧ L.take l.length = l := by
  intro R
  induction R with
  | nil =>
    intro i x h hi hx hx' ht
    have h1 := drop_nil h
    obtain ⟨L, e, h2⟩ := toInt64SF_l1 l hl (x.length - l.length) x l.length rfl hx' (Nat.le_refl _) hx (by rw [show l.length = i by omega, ht, List.take_of_length_le h1])
    exact ⟨L, Ev.step (fun k => laws_toInt64SF.l0.eq_2 ..) (ev_neg (by omega) e), h2⟩
  | cons c R ih =>
    intro i x h hi hx hx' ht
    obtain ⟨h1, h2, h3⟩ := rd_drop h
    obtain ⟨_, hc, _⟩ := drop_cons h
    obtain ⟨L, e, h4, h5⟩ := ih (i + 1) (x.set i c) h3 (by omega) (by rw [List.length_set]; omega) (by rw [List.length_set]; omega) (take_set_next x l i c (by omega) hc ht)
    refine ⟨L, Ev.step (fun k => laws_toInt64SF.l0.eq_2 ..) (ev_pos (by omega) (ev_pos (by omega) (ev_pos (by omega) ?_))), by rw [h4, List.length_set], h5⟩
    rw [h2, Int.toNat_natCast, w64 (n := (i : Int) + 1) (by omega) (by omega)]
    exact e
theorem toInt64SF_ev (l : List Int) (hl : l.length ≤ 1000000000) {t : Int} (ht : laws_roomBehind.f (l.length : Int) = some t) (t0 : 0 ≤ t) (t1 : t ≤ 1000000000) : ∃ L, Ev (fun k => laws_toInt64SF.f k l false) L ∧ (L.length : Int) = l.length + t ∧ L.take l.length = l := by
  obtain ⟨L, e, h1, h2⟩ := toInt64SF_l0 l hl l 0 (List.replicate ((l.length : Int) + t).toNat 0) rfl (by omega) (by rw [List.length_replicate]; omega) (by rw [List.length_replicate]; omega) (by simp)
  rw [List.length_replicate] at h1
  refine ⟨L, ?_, by omega, h2⟩
  refine ev_neg (by decide) (Ev.step (fun k => laws_toInt64SF.j0.eq_2 ..) (ev_neg (by decide) (ev_bind0 ht ?_)))
  rw [w64 (n := (l.length : Int) + t) (by omega) (by omega)]
  exact ev_pos (by omega) (ev_pos (by omega) e)
/-! #### the same, its room forgotten -/
theorem toInt64S_l1 (l : List Int) (hl : l.length ≤ 1000000000) : ∀ (d : Nat) (x : List Int) (j : Nat), x.length - j = d → x.length ≤ 3000000000 → l.length ≤ j → j ≤ x.length → x.take l.length = l →
    Ev (fun k => laws_toInt64S.l1 k l x (j : Int)) l := by
  intro d
  induction d with
  | zero =>
    intro x j hd hx hj hjx ht
    exact Ev.step (fun k => laws_toInt64S.l1.eq_2 ..) (ev_neg (by omega) (ev_pos (by omega) (ev_pos (by omega) (ev_ret (by rw [Int.toNat_natCast, ht])))))
  | succ d ih =>
    intro x j hd hx hj hjx ht
    have e := ih (x.set j (-7000000000000000101)) (j + 1) (by rw [List.length_set]; omega) (by rw [List.length_set]; omega) (by omega) (by rw [List.length_set]; omega) (by rw [take_set_ge _ _ _ _ hj, ht])
    refine Ev.step (fun k => laws_toInt64S.l1.eq_2 ..) (ev_pos (by omega) (ev_pos (by omega) ?_))
    rw [Int.toNat_natCast, w64 (n := (j : Int) + 1) (by omega) (by omega)]
    exact e
theorem toInt64S_l0 (l : List Int) (hl : l.length ≤ 1000000000) : ∀ (R : List Int) (i : Nat) (x : List Int), l.drop i = R → i ≤ l.length → l.length ≤ x.length → x.length ≤ 3000000000 → x.take i = l.take i →
    Ev (fun k => laws_toInt64S.l0 k l x (i : Int)) l := by
  intro R
  induction R with
  | nil =>
    intro i x h hi hx hx' ht
    have h1 := drop_nil h
    have e := toInt64S_l1 l hl (x.length - l.length) x l.length rfl hx' (Nat.le_refl _) hx (by rw [show l.length = i by omega, ht, List.take_of_length_le h1])
    exact Ev.step (fun k => laws_toInt64S.l0.eq_2 ..) (ev_neg (by omega) e)
  | cons c R ih =>
    intro i x h hi hx hx' ht
    obtain ⟨h1, h2, h3⟩ := rd_drop h
    obtain ⟨_, hc, _⟩ := drop_cons h
    have e := ih (i + 1) (x.set i c) h3 (by omega) (by rw [List.length_set]; omega) (by rw [List.length_set]; omega) (take_set_next x l i c (by omega) hc ht)
    refine Ev.step (fun k => laws_toInt64S.l0.eq_2 ..) (ev_pos (by omega) (ev_pos (by omega) (ev_pos (by omega) ?_)))
    rw [h2, Int.toNat_natCast, w64 (n := (i : Int) + 1) (by omega) (by omega)]
    exact e
theorem toInt64S_bare (l : List Int) (hl : l.length ≤ 1000000000) : Ev (fun k => laws_toInt64S.f k l true) l := by
  refine ev_pos rfl (Ev.step (fun k => laws_toInt64S.j0.eq_2 ..) ?_)
  by_cases a : l.length = 0
  · exact ev_pos (by simp [a]) (ev_ret (by symm; exact List.length_eq_zero_iff.1 a))
  · obtain ⟨t, et, t0, t1⟩ := room_some l.length hl
    refine ev_neg (by simp; intro h; simp [h] at a) (ev_bind0 et ?_)
    rw [w64 (n := (l.length : Int) + t) (by omega) (by omega)]
    refine ev_pos (by omega) (ev_pos (by omega) ?_)
    exact toInt64S_l0 l hl l 0 (List.replicate ((l.length : Int) + t).toNat 0) rfl (by omega) (by rw [List.length_replicate]; omega) (by rw [List.length_replicate]; omega) (by simp)

theorem maxLen_eq : maxLen ≤ 9223372036854775807 := by unfold maxLen; decide
theorem takeC {w : World} {A : Option Addr} {n : Nat} {M L : List Int} (hLt : L.take n = M) (hM : M.length = n) (hLl : n ≤ L.length) (h : Kd.C (Kd.int .i64) w A L.length L) : Kd.C (Kd.int .i64) w A M.length M := by
  have := Kd.C_take (m := n) h hLl
  rwa [hLt] at this
theorem takeR {w : World} {b c : Nat} {ok : Nat → Prop} {A : Option Addr} {n : Nat} {M L : List Int} (hLt : L.take n = M) (hM : M.length = n) (hLl : n ≤ L.length) (h : Kd.R (Kd.int .i64) 2 w b ok (.slice A L.length c) L) : Kd.R (Kd.int .i64) 2 w b (fun k_ => some k_ = (.slice A M.length c : Value).ownBlock) (.slice A M.length c) M := by
  have := Kd.R_take (m := n) h hLl
  rw [hLt, ← hM] at this
  exact Kd.R_tight rfl this
theorem ne_base {α : Type} {β : Type} {d : Kd α} {d' : Kd β} {e e' b : Nat} {ok ok' : Nat → Prop} {w w1 : World} {u v : Value} {xs : List α} {ys : List β} (hu : d.R e w b ok u xs) (hv : d'.R e' w1 w.heap.size ok' v ys) : ∀ k, u.ownBlock = some k → some k ≠ v.ownBlock := by
  intro k hk he
  have h1 := ((Kd.R_bound hu).1 k hk).2.2.1
  have h2 := ((Kd.R_bound hv).1 k he.symm).2.1
  omega
theorem own_same (A : Option Addr) (n m c : Nat) : (Value.slice A n c).ownBlock = (Value.slice A m c).ownBlock := by cases A <;> rfl
theorem R_keptT {α : Type} {d : Kd α} {e b : Nat} {ok : Nat → Prop} {W W2 : World} {S : Nat → Prop} {v : Value} {xs : List α} (hE : d.E = []) (h : d.R e W b ok v xs) (hk : Kept W W2 S) (hne : ∀ k, v.ownBlock = some k → ¬ S k) : d.R e W2 b (fun _ => True) v xs :=
  Kd.R_mono (Kd.R_kept (Kd.R_tight hE h) hk (fun k hk2 => hne k hk2.symm)) (fun _ _ => trivial)
set_option maxHeartbeats 16000000 in
set_option maxRecDepth 100000 in
theorem go (k : Nat) (A0 : Option Addr) (c0 : Nat) (l0 r L Mx Mg : List Int) (t kx km room : Int) (w : World) (hr0 : Kd.C (Kd.int .i64) w A0 l0.length l0) (hc0 : l0.length ≤ c0) (hn : l0.length ≤ 1000000)
    (hfull : laws_toInt64SF.f k l0 false = some L) (hLt : L.take l0.length = l0) (hLl : l0.length ≤ L.length) (hLr : (L.length : Int) = l0.length + room) (hroom : laws_roomBehind.f (l0.length : Int) = some room) (hr0_ : 0 ≤ room) (hr1_ : room ≤ 1000000000000)
    (hbare : laws_toInt64S.f k l0 true = some l0) (hspec : ∀ (A : Option Addr) (c : Nat) (w : World), Kd.C (Kd.int .i64) w A l0.length l0 → l0.length ≤ c → Calls Try.prog 5 #[.slice A l0.length c] w fun e w' => ∃ v0_ : Value, e = .returned (.tuple #[v0_, .int .i64 t]) ∧ Kd.R (Kd.int .i64) 2 w' w.heap.size (fun _ => True) v0_ r ∧ Below w.heap.size w w')
    (himp : impl_SortNumbers.f k l0 = some (r, t)) (heqr : laws_eqInt64S.f k r r = some true) (heq : laws_eqInt64S.f k L L = some true)
    (hmx : laws_markInt64S.f k l0 101 = some (kx, Mx)) (hkx : 0 ≤ kx) (hmg : laws_markInt64S.f k r 101 = some (km, Mg)) (hkm : 0 ≤ km) (hMl : Mg.length = r.length) (hhe : laws_heldInt64S.f k Mg 101 = some km) :
    Calls Try.prog 3 #[.slice A0 l0.length c0] w fun e w' => e = .returned (.bool true) ∧ Below w.heap.size w w' := by
  have hM : l0.length = l0.length := rfl
  have takeC : ∀ {w : World} {A : Option Addr}, Kd.C (Kd.int .i64) w A L.length L → Kd.C (Kd.int .i64) w A l0.length l0 := takeC hLt hM hLl
  have HR0 := Aside0.mk hr0
  have HC0 := Aside0.mk hc0
  have HB := Aside0.mk (Below.refl w.heap.size w)
  have c1b0 : decide (1000000 < (l0.length : Int)) = false := decide_eq_false (by omega)
  have c1b1 : decide (1000000 < l0.length) = false := decide_eq_false (by omega)
  have c2b0 : decide (kx < 0) = false := decide_eq_false (by omega)
  have c3b0 : decide (km < 0) = false := decide_eq_false (by omega)
  have qt0 : (t == t) = true := by simp
  have qt1 : (t != t) = false := by simp
  have qm0 : (km == km) = true := by simp
  have qm1 : (km != km) = false := by simp
  replace hn : l0.length ≤ 1000000000000 := by omega
  have himpl : ∀ (A : Option Addr) (c : Nat) (w : World), Kd.C (Kd.int .i64) w A l0.length l0 → l0.length ≤ c → Calls Try.prog 7 #[.slice A l0.length c] w fun e w' => ∃ v0_ : Value, e = .returned (.tuple #[v0_, .int .i64 t]) ∧ Kd.R (Kd.int .i64) 2 w' w.heap.size (fun _ => True) v0_ r ∧ Below w.heap.size w w' := fun A c w h1 h2 => impl_SortNumbers.calls k A c l0 r t w h1 h2 himp
  have hheld : ∀ (A : Option Addr) (c : Nat) (w : World), Kd.C (Kd.int .i64) w A Mg.length Mg → Mg.length ≤ c → Calls Try.prog 11 #[.slice A r.length c, .int .i64 101] w fun e w' => e = .returned (.int .i64 km) ∧ Drawn0 w w' := by
    intro A c w h1 h2
    rw [← hMl]
    exact laws_heldInt64S.calls k A c Mg 101 km w h1 h2 hhe
  clear hr0 hc0 hkx hkm himp hhe
  go_enter Try.func3, Try.ntmps3
  go_wp2_with (first | ((with_reducible refine gate_callee (f := 6) rfl ?_); refine goesL_ (some 18) rfl rfl Try.func6 (by kernel_rfl) rfl #[.slice A0 l0.length c0, .bool false] rfl (by (try simp only [List.map_toArray, List.map_cons, List.map_nil]); first | done | rfl | (simp only [List.length_drop, List.length_take]; rfl) | (go_simp; done) | (simp; done) | (simp; rfl)) ?_; (with_reducible refine (laws_toInt64SF.calls k _ _ l0 false L _ ?side1 ?side2 hfull).mono ?_); (case side1 => repeat (first | exact (Kd.C_below HR0.out (by repeat (first | (with_reducible first | exact HB.out | apply below_alloc | apply pw_below_drewN | apply below_drew1) | exact HB.out))) | (with_reducible refine Kd.C_alloc ?_ _) | (with_reducible refine Kd.C_drewN ?_ _) | (with_reducible refine Kd.C_drew ?_))); (case side2 => exact HC0.out); rintro e wp ⟨Ap, cp, rfl, hR, _, hb⟩; refine ⟨_, rfl, ?_⟩; have HKp := Aside0.mk (Kd.R_reads' hR).2.2; have HLp := Aside0.mk (Kd.R_reads' hR).2.1; clear hR; have nb_ := Aside0.mk (below_step (by repeat (first | (with_reducible first | exact HB.out | apply below_alloc | apply pw_below_drewN | apply below_drew1) | exact HB.out)) hb); clear HB; have HB := nb_; clear nb_; clear hb) | ((with_reducible refine gate_callee (f := 5) rfl ?_); refine goesL_ (some 19) rfl rfl Try.func5 (by kernel_rfl) rfl #[.slice Ap l0.length cp] rfl (by (try simp only [List.map_toArray, List.map_cons, List.map_nil]); first | done | rfl | (simp only [List.length_drop, List.length_take]; rfl) | (go_simp; done) | (simp; done) | (simp; rfl)) ?_; (with_reducible refine (hspec _ _ _ ?side1 ?side2).mono ?_); (case side1 => repeat (first | exact (takeC HKp.out) | (with_reducible refine Kd.C_alloc ?_ _) | (with_reducible refine Kd.C_drewN ?_ _) | (with_reducible refine Kd.C_drew ?_))); (case side2 => exact (Nat.le_trans hLl HLp.out)); rintro e wq ⟨vw, rfl, hR, hb⟩; refine ⟨_, rfl, ?_⟩; obtain ⟨Aw, cw, ew⟩ := Kd.R_slice hR; subst ew; have HW := Aside0.mk (Kd.R_lower hR (below_size (by repeat (first | (with_reducible first | exact HB.out | apply below_alloc | apply pw_below_drewN | apply below_drew1) | exact HB.out)))); clear hR; have n0_ := Aside0.mk (Kd.C_below (by repeat (first | exact HKp.out | (with_reducible refine Kd.C_alloc ?_ _) | (with_reducible refine Kd.C_drewN ?_ _) | (with_reducible refine Kd.C_drew ?_))) hb); have nb_ := Aside0.mk (below_step (by repeat (first | (with_reducible first | exact HB.out | apply below_alloc | apply pw_below_drewN | apply below_drew1) | exact HB.out)) hb); clear HKp; clear HB; have HKp := n0_; have HB := nb_; clear n0_ nb_; clear hb) | ((with_reducible refine gate_callee (f := 6) rfl ?_); refine goesL_ (some 23) rfl rfl Try.func6 (by kernel_rfl) rfl #[.slice A0 l0.length c0, .bool false] rfl (by (try simp only [List.map_toArray, List.map_cons, List.map_nil]); first | done | rfl | (simp only [List.length_drop, List.length_take]; rfl) | (go_simp; done) | (simp; done) | (simp; rfl)) ?_; (with_reducible refine (laws_toInt64SF.calls k _ _ l0 false L _ ?side1 ?side2 hfull).mono ?_); (case side1 => repeat (first | exact (Kd.C_below HR0.out (by repeat (first | (with_reducible first | exact HB.out | apply below_alloc | apply pw_below_drewN | apply below_drew1) | exact HB.out))) | (with_reducible refine Kd.C_alloc ?_ _) | (with_reducible refine Kd.C_drewN ?_ _) | (with_reducible refine Kd.C_drew ?_))); (case side2 => exact HC0.out); rintro e wx ⟨Ax, cx, rfl, hR, _, hb⟩; refine ⟨_, rfl, ?_⟩; have NWX := Aside0.mk (ne_base (by (with_reducible repeat (first | apply Kd.R_alloc | apply Kd.R_drewN | apply Kd.R_drew)); exact HW.out) hR); have HLx := Aside0.mk (Kd.R_reads' hR).2.1; have HX := Aside0.mk (Kd.R_lower hR (below_size (by repeat (first | (with_reducible first | exact HB.out | apply below_alloc | apply pw_below_drewN | apply below_drew1) | exact HB.out)))); clear hR; have n0_ := Aside0.mk (Kd.R_below (by (with_reducible repeat (first | apply Kd.R_alloc | apply Kd.R_drewN | apply Kd.R_drew)); exact HW.out) hb); have nb_ := Aside0.mk (below_step (by repeat (first | (with_reducible first | exact HB.out | apply below_alloc | apply pw_below_drewN | apply below_drew1) | exact HB.out)) hb); clear HW; clear HB; have HW := n0_; have HB := nb_; clear n0_ nb_; clear hb) | ((with_reducible refine gate_callee (f := 7) rfl ?_); refine goesL_ (some 26) rfl rfl Try.func7 (by kernel_rfl) rfl #[.slice Ax l0.length cx] rfl (by (try simp only [List.map_toArray, List.map_cons, List.map_nil]); first | done | rfl | (simp only [List.length_drop, List.length_take]; rfl) | (go_simp; done) | (simp; done) | (simp; rfl)) ?_; (with_reducible refine (himpl _ _ _ ?side1 ?side2).mono ?_); (case side1 => exact (takeC (Kd.R_reads' (by (with_reducible repeat (first | apply Kd.R_alloc | apply Kd.R_drewN | apply Kd.R_drew)); exact HX.out)).2.2)); (case side2 => exact (Nat.le_trans hLl HLx.out)); rintro e wr ⟨vg, rfl, hR, hb⟩; refine ⟨_, rfl, ?_⟩; obtain ⟨Ag, cg, eg⟩ := Kd.R_slice hR; subst eg; have NWG := Aside0.mk (ne_base (by (with_reducible repeat (first | apply Kd.R_alloc | apply Kd.R_drewN | apply Kd.R_drew)); exact HW.out) hR); have NXG := Aside0.mk (ne_base (by (with_reducible repeat (first | apply Kd.R_alloc | apply Kd.R_drewN | apply Kd.R_drew)); exact HX.out) hR); have HG := Aside0.mk (Kd.R_lower hR (below_size (by repeat (first | (with_reducible first | exact HB.out | apply below_alloc | apply pw_below_drewN | apply below_drew1) | exact HB.out)))); clear hR; have n0_ := Aside0.mk (Kd.R_below (by (with_reducible repeat (first | apply Kd.R_alloc | apply Kd.R_drewN | apply Kd.R_drew)); exact HW.out) hb); have n1_ := Aside0.mk (Kd.R_below (by (with_reducible repeat (first | apply Kd.R_alloc | apply Kd.R_drewN | apply Kd.R_drew)); exact HX.out) hb); have nb_ := Aside0.mk (below_step (by repeat (first | (with_reducible first | exact HB.out | apply below_alloc | apply pw_below_drewN | apply below_drew1) | exact HB.out)) hb); clear HW; clear HX; clear HB; have HW := n0_; have HX := n1_; have HB := nb_; clear n0_ n1_ nb_; clear hb) | ((with_reducible refine gate_callee (f := 8) rfl ?_); refine goesL_ (some 31) rfl rfl Try.func8 (by kernel_rfl) rfl #[.slice Ag r.length cg, .slice Aw r.length cw] rfl (by (try simp only [List.map_toArray, List.map_cons, List.map_nil]); first | done | rfl | (simp only [List.length_drop, List.length_take]; rfl) | (go_simp; done) | (simp; done) | (simp; rfl)) ?_; (with_reducible refine (laws_eqInt64S.calls k _ _ r _ _ r true _ ?side1 ?side2 ?side3 ?side4 heqr).mono ?_); (case side1 => exact (Kd.R_reads' (by (with_reducible repeat (first | apply Kd.R_alloc | apply Kd.R_drewN | apply Kd.R_drew)); exact HG.out)).2.2); (case side2 => exact (Kd.R_reads' HG.out).2.1); (case side3 => exact (Kd.R_reads' (by (with_reducible repeat (first | apply Kd.R_alloc | apply Kd.R_drewN | apply Kd.R_drew)); exact HW.out)).2.2); (case side4 => exact (Kd.R_reads' HW.out).2.1); rintro e we1 ⟨rfl, hd⟩; have hb := drawn_below hd; clear hd; refine ⟨_, rfl, ?_⟩; have n0_ := Aside0.mk (Kd.R_below (by (with_reducible repeat (first | apply Kd.R_alloc | apply Kd.R_drewN | apply Kd.R_drew)); exact HW.out) hb); have n1_ := Aside0.mk (Kd.R_below (by (with_reducible repeat (first | apply Kd.R_alloc | apply Kd.R_drewN | apply Kd.R_drew)); exact HX.out) hb); have n2_ := Aside0.mk (Kd.R_below (by (with_reducible repeat (first | apply Kd.R_alloc | apply Kd.R_drewN | apply Kd.R_drew)); exact HG.out) hb); have nb_ := Aside0.mk (below_step (by repeat (first | (with_reducible first | exact HB.out | apply below_alloc | apply pw_below_drewN | apply below_drew1) | exact HB.out)) hb); clear HW; clear HX; clear HG; clear HB; have HW := n0_; have HX := n1_; have HG := n2_; have HB := nb_; clear n0_ n1_ n2_ nb_; clear hb) | ((with_reducible refine gate_callee (f := 6) rfl ?_); refine goesL_ (some 40) rfl rfl Try.func6 (by kernel_rfl) rfl #[.slice A0 l0.length c0, .bool false] rfl (by (try simp only [List.map_toArray, List.map_cons, List.map_nil]); first | done | rfl | (simp only [List.length_drop, List.length_take]; rfl) | (go_simp; done) | (simp; done) | (simp; rfl)) ?_; (with_reducible refine (laws_toInt64SF.calls k _ _ l0 false L _ ?side1 ?side2 hfull).mono ?_); (case side1 => repeat (first | exact (Kd.C_below HR0.out (by repeat (first | (with_reducible first | exact HB.out | apply below_alloc | apply pw_below_drewN | apply below_drew1) | exact HB.out))) | (with_reducible refine Kd.C_alloc ?_ _) | (with_reducible refine Kd.C_drewN ?_ _) | (with_reducible refine Kd.C_drew ?_))); (case side2 => exact HC0.out); rintro e wy ⟨Ay, cy, rfl, hR, _, hb⟩; refine ⟨_, rfl, ?_⟩; have HKy := Aside0.mk (Kd.R_reads' hR).2.2; have HLy := Aside0.mk (Kd.R_reads' hR).2.1; clear hR; have n0_ := Aside0.mk (Kd.R_below (by (with_reducible repeat (first | apply Kd.R_alloc | apply Kd.R_drewN | apply Kd.R_drew)); exact HW.out) hb); have n1_ := Aside0.mk (Kd.R_below (by (with_reducible repeat (first | apply Kd.R_alloc | apply Kd.R_drewN | apply Kd.R_drew)); exact HX.out) hb); have n2_ := Aside0.mk (Kd.R_below (by (with_reducible repeat (first | apply Kd.R_alloc | apply Kd.R_drewN | apply Kd.R_drew)); exact HG.out) hb); have nb_ := Aside0.mk (below_step (by repeat (first | (with_reducible first | exact HB.out | apply below_alloc | apply pw_below_drewN | apply below_drew1) | exact HB.out)) hb); clear HW; clear HX; clear HG; clear HB; have HW := n0_; have HX := n1_; have HG := n2_; have HB := nb_; clear n0_ n1_ n2_ nb_; clear hb) | ((with_reducible refine gate_callee (f := 9) rfl ?_); refine goesL_ (some 41) rfl rfl Try.func9 (by kernel_rfl) rfl #[.slice Ax l0.length cx, .slice Ay l0.length cy] rfl (by (try simp only [List.map_toArray, List.map_cons, List.map_nil]); first | done | rfl | (simp only [List.length_drop, List.length_take]; rfl) | (go_simp; done) | (simp; done) | (simp; rfl)) ?_; (with_reducible refine (laws_intactInt64SF.calls k l0.length _ _ L _ _ L room _ ?side1 ?side2 ?side3 ?side4 hroom hn hr0_ hr1_ hLr hLr heq).mono ?_); (case side1 => exact (Kd.R_reads' (by (with_reducible repeat (first | apply Kd.R_alloc | apply Kd.R_drewN | apply Kd.R_drew)); exact HX.out)).2.2); (case side2 => exact HLx.out); (case side3 => repeat (first | exact HKy.out | (with_reducible refine Kd.C_alloc ?_ _) | (with_reducible refine Kd.C_drewN ?_ _) | (with_reducible refine Kd.C_drew ?_))); (case side4 => exact HLy.out); rintro e ws ⟨rfl, hb⟩; refine ⟨_, rfl, ?_⟩; have n0_ := Aside0.mk (Kd.R_below (by (with_reducible repeat (first | apply Kd.R_alloc | apply Kd.R_drewN | apply Kd.R_drew)); exact HW.out) hb); have n1_ := Aside0.mk (Kd.R_below (by (with_reducible repeat (first | apply Kd.R_alloc | apply Kd.R_drewN | apply Kd.R_drew)); exact HX.out) hb); have n2_ := Aside0.mk (Kd.R_below (by (with_reducible repeat (first | apply Kd.R_alloc | apply Kd.R_drewN | apply Kd.R_drew)); exact HG.out) hb); have n3_ := Aside0.mk (Kd.C_below (by repeat (first | exact HKy.out | (with_reducible refine Kd.C_alloc ?_ _) | (with_reducible refine Kd.C_drewN ?_ _) | (with_reducible refine Kd.C_drew ?_))) hb); have nb_ := Aside0.mk (below_step (by repeat (first | (with_reducible first | exact HB.out | apply below_alloc | apply pw_below_drewN | apply below_drew1) | exact HB.out)) hb); clear HW; clear HX; clear HG; clear HKy; clear HB; have HW := n0_; have HX := n1_; have HG := n2_; have HKy := n3_; have HB := nb_; clear n0_ n1_ n2_ n3_ nb_; clear hb) | ((with_reducible refine gate_callee (f := 10) rfl ?_); refine goesL_ (some 45) rfl rfl Try.func10 (by kernel_rfl) rfl #[.slice Ax l0.length cx, .int .i64 101] rfl (by (try simp only [List.map_toArray, List.map_cons, List.map_nil]); first | done | rfl | (simp only [List.length_drop, List.length_take]; rfl) | (go_simp; done) | (simp; done) | (simp; rfl)) ?_; (with_reducible refine (laws_markInt64S.calls k (fun k_ => some k_ = (.slice Ax l0.length cx : Value).ownBlock) (.slice Ax l0.length cx) l0 101 kx Mx w _ ?side1 ?side2 hmx).mono ?_); (case side1 => repeat (first | (with_reducible first | exact HB.out | apply below_alloc | apply pw_below_drewN | apply below_drew1) | exact HB.out)); (case side2 => exact (takeR hLt rfl hLl (by (with_reducible repeat (first | apply Kd.R_alloc | apply Kd.R_drewN | apply Kd.R_drew)); exact HX.out))); rintro e wk ⟨rfl, _, hb0, hkp⟩; refine ⟨_, rfl, ?_⟩; have n0_ := Aside0.mk (R_keptT rfl (by (with_reducible repeat (first | apply Kd.R_alloc | apply Kd.R_drewN | apply Kd.R_drew)); exact HW.out) hkp (fun k_ hk_ he_ => NWX.out k_ hk_ (he_.trans (own_same _ _ _ _)))); have n1_ := Aside0.mk (R_keptT rfl (by (with_reducible repeat (first | apply Kd.R_alloc | apply Kd.R_drewN | apply Kd.R_drew)); exact HG.out) hkp (fun k_ hk_ he_ => NXG.out k_ ((own_same _ _ _ _).trans he_.symm) hk_.symm)); have nb_ := Aside0.mk (hb0); clear HW; clear HG; clear HB; have HW := n0_; have HG := n1_; have HB := nb_; clear n0_ n1_ nb_; clear hb0 hkp; clear HX NWX NXG) | (go_at_call 8; (with_reducible refine (laws_eqInt64S.calls k _ _ r _ _ r true _ ?side1 ?side2 ?side3 ?side4 heqr).mono ?_); (case side1 => exact (Kd.R_reads' (by (with_reducible repeat (first | apply Kd.R_alloc | apply Kd.R_drewN | apply Kd.R_drew)); exact HG.out)).2.2); (case side2 => exact (Kd.R_reads' HG.out).2.1); (case side3 => exact (Kd.R_reads' (by (with_reducible repeat (first | apply Kd.R_alloc | apply Kd.R_drewN | apply Kd.R_drew)); exact HW.out)).2.2); (case side4 => exact (Kd.R_reads' HW.out).2.1); rintro e we2 ⟨rfl, hd⟩; have hb := drawn_below hd; clear hd; have n0_ := Aside0.mk (Kd.R_below (by (with_reducible repeat (first | apply Kd.R_alloc | apply Kd.R_drewN | apply Kd.R_drew)); exact HW.out) hb); have n1_ := Aside0.mk (Kd.R_below (by (with_reducible repeat (first | apply Kd.R_alloc | apply Kd.R_drewN | apply Kd.R_drew)); exact HG.out) hb); have nb_ := Aside0.mk (below_step (by repeat (first | (with_reducible first | exact HB.out | apply below_alloc | apply pw_below_drewN | apply below_drew1) | exact HB.out)) hb); clear HW; clear HG; clear HB; have HW := n0_; have HG := n1_; have HB := nb_; clear n0_ n1_ nb_; clear hb) | ((with_reducible refine gate_callee (f := 10) rfl ?_); refine goesL_ (some 61) rfl rfl Try.func10 (by kernel_rfl) rfl #[.slice Ag r.length cg, .int .i64 101] rfl (by (try simp only [List.map_toArray, List.map_cons, List.map_nil]); first | done | rfl | (simp only [List.length_drop, List.length_take]; rfl) | (go_simp; done) | (simp; done) | (simp; rfl)) ?_; (with_reducible refine (laws_markInt64S.calls k (fun k_ => some k_ = (.slice Ag r.length cg : Value).ownBlock) (.slice Ag r.length cg) r 101 km Mg w _ ?side1 ?side2 hmg).mono ?_); (case side1 => repeat (first | (with_reducible first | exact HB.out | apply below_alloc | apply pw_below_drewN | apply below_drew1) | exact HB.out)); (case side2 => exact (Kd.R_tight rfl (by (with_reducible repeat (first | apply Kd.R_alloc | apply Kd.R_drewN | apply Kd.R_drew)); exact HG.out))); rintro e wl ⟨rfl, hRg, hb0, hkp⟩; refine ⟨_, rfl, ?_⟩; have n0_ := Aside0.mk (R_keptT rfl (by (with_reducible repeat (first | apply Kd.R_alloc | apply Kd.R_drewN | apply Kd.R_drew)); exact HW.out) hkp (fun k_ hk_ => NWG.out k_ hk_)); have nb_ := Aside0.mk (hb0); clear HW; clear HB; have HW := n0_; have HB := nb_; clear n0_ nb_; clear hb0 hkp; have HM := Aside0.mk (Kd.R_mono (ok' := fun _ => True) hRg (fun _ _ => trivial)); clear hRg HG NWG) | ((with_reducible refine gate_callee (f := 11) rfl ?_); refine goesL_ (some 64) rfl rfl Try.func11 (by kernel_rfl) rfl #[.slice Ag r.length cg, .int .i64 101] rfl (by (try simp only [List.map_toArray, List.map_cons, List.map_nil]); first | done | rfl | (simp only [List.length_drop, List.length_take]; rfl) | (go_simp; done) | (simp; done) | (simp; rfl)) ?_; (with_reducible refine (hheld _ _ _ ?side1 ?side2).mono ?_); (case side1 => exact (Kd.R_reads' (by (with_reducible repeat (first | apply Kd.R_alloc | apply Kd.R_drewN | apply Kd.R_drew)); exact HM.out)).2.2); (case side2 => exact (Kd.R_reads' HM.out |> fun z_ => z_.1 ▸ z_.2.1)); rintro e wm ⟨rfl, hd⟩; have hb := drawn_below hd; clear hd; refine ⟨_, rfl, ?_⟩; have n0_ := Aside0.mk (Kd.R_below (by (with_reducible repeat (first | apply Kd.R_alloc | apply Kd.R_drewN | apply Kd.R_drew)); exact HW.out) hb); have n1_ := Aside0.mk (Kd.R_below (by (with_reducible repeat (first | apply Kd.R_alloc | apply Kd.R_drewN | apply Kd.R_drew)); exact HM.out) hb); have nb_ := Aside0.mk (below_step (by repeat (first | (with_reducible first | exact HB.out | apply below_alloc | apply pw_below_drewN | apply below_drew1) | exact HB.out)) hb); clear HW; clear HM; clear HB; have HW := n0_; have HM := n1_; have HB := nb_; clear n0_ n1_ nb_; clear hb) | ((with_reducible refine gate_callee (f := 6) rfl ?_); refine goesL_ (some 72) rfl rfl Try.func6 (by kernel_rfl) rfl #[.slice A0 l0.length c0, .bool true] rfl (by (try simp only [List.map_toArray, List.map_cons, List.map_nil]); first | done | rfl | (simp only [List.length_drop, List.length_take]; rfl) | (go_simp; done) | (simp; done) | (simp; rfl)) ?_; (with_reducible refine (laws_toInt64S.calls k _ _ l0 true l0 _ ?side1 ?side2 hbare).mono ?_); (case side1 => repeat (first | exact (Kd.C_below HR0.out (by repeat (first | (with_reducible first | exact HB.out | apply below_alloc | apply pw_below_drewN | apply below_drew1) | exact HB.out))) | (with_reducible refine Kd.C_alloc ?_ _) | (with_reducible refine Kd.C_drewN ?_ _) | (with_reducible refine Kd.C_drew ?_))); (case side2 => exact HC0.out); rintro e wz ⟨vz, rfl, hR, hb⟩; obtain ⟨Az, cz, ez⟩ := Kd.R_slice hR; subst ez; refine ⟨_, rfl, ?_⟩; have HKz := Aside0.mk (Kd.R_reads' hR).2.2; have HLz := Aside0.mk (Kd.R_reads' hR).2.1; clear hR; have n0_ := Aside0.mk (Kd.R_below (by (with_reducible repeat (first | apply Kd.R_alloc | apply Kd.R_drewN | apply Kd.R_drew)); exact HW.out) hb); have n1_ := Aside0.mk (Kd.R_below (by (with_reducible repeat (first | apply Kd.R_alloc | apply Kd.R_drewN | apply Kd.R_drew)); exact HM.out) hb); have nb_ := Aside0.mk (below_step (by repeat (first | (with_reducible first | exact HB.out | apply below_alloc | apply pw_below_drewN | apply below_drew1) | exact HB.out)) hb); clear HW; clear HM; clear HB; have HW := n0_; have HM := n1_; have HB := nb_; clear n0_ n1_ nb_; clear hb) | ((with_reducible refine gate_callee (f := 7) rfl ?_); refine goesL_ (some 73) rfl rfl Try.func7 (by kernel_rfl) rfl #[.slice Az l0.length cz] rfl (by (try simp only [List.map_toArray, List.map_cons, List.map_nil]); first | done | rfl | (simp only [List.length_drop, List.length_take]; rfl) | (go_simp; done) | (simp; done) | (simp; rfl)) ?_; (with_reducible refine (himpl _ _ _ ?side1 ?side2).mono ?_); (case side1 => repeat (first | exact HKz.out | (with_reducible refine Kd.C_alloc ?_ _) | (with_reducible refine Kd.C_drewN ?_ _) | (with_reducible refine Kd.C_drew ?_))); (case side2 => exact HLz.out); rintro e wt ⟨vh, rfl, hR, hb⟩; refine ⟨_, rfl, ?_⟩; obtain ⟨Ah, ch, eh⟩ := Kd.R_slice hR; subst eh; have HH := Aside0.mk (Kd.R_lower hR (below_size (by repeat (first | (with_reducible first | exact HB.out | apply below_alloc | apply pw_below_drewN | apply below_drew1) | exact HB.out)))); clear hR; have n0_ := Aside0.mk (Kd.R_below (by (with_reducible repeat (first | apply Kd.R_alloc | apply Kd.R_drewN | apply Kd.R_drew)); exact HW.out) hb); have n1_ := Aside0.mk (Kd.R_below (by (with_reducible repeat (first | apply Kd.R_alloc | apply Kd.R_drewN | apply Kd.R_drew)); exact HM.out) hb); have n2_ := Aside0.mk (Kd.C_below (by repeat (first | exact HKz.out | (with_reducible refine Kd.C_alloc ?_ _) | (with_reducible refine Kd.C_drewN ?_ _) | (with_reducible refine Kd.C_drew ?_))) hb); have nb_ := Aside0.mk (below_step (by repeat (first | (with_reducible first | exact HB.out | apply below_alloc | apply pw_below_drewN | apply below_drew1) | exact HB.out)) hb); clear HW; clear HM; clear HKz; clear HB; have HW := n0_; have HM := n1_; have HKz := n2_; have HB := nb_; clear n0_ n1_ n2_ nb_; clear hb) | ((with_reducible refine gate_callee (f := 8) rfl ?_); refine goesL_ (some 78) rfl rfl Try.func8 (by kernel_rfl) rfl #[.slice Ah r.length ch, .slice Aw r.length cw] rfl (by (try simp only [List.map_toArray, List.map_cons, List.map_nil]); first | done | rfl | (simp only [List.length_drop, List.length_take]; rfl) | (go_simp; done) | (simp; done) | (simp; rfl)) ?_; (with_reducible refine (laws_eqInt64S.calls k _ _ r _ _ r true _ ?side1 ?side2 ?side3 ?side4 heqr).mono ?_); (case side1 => exact (Kd.R_reads' (by (with_reducible repeat (first | apply Kd.R_alloc | apply Kd.R_drewN | apply Kd.R_drew)); exact HH.out)).2.2); (case side2 => exact (Kd.R_reads' HH.out).2.1); (case side3 => exact (Kd.R_reads' (by (with_reducible repeat (first | apply Kd.R_alloc | apply Kd.R_drewN | apply Kd.R_drew)); exact HW.out)).2.2); (case side4 => exact (Kd.R_reads' HW.out).2.1); rintro e we3 ⟨rfl, hd⟩; have hb := drawn_below hd; clear hd; refine ⟨_, rfl, ?_⟩; have n0_ := Aside0.mk (Kd.R_below (by (with_reducible repeat (first | apply Kd.R_alloc | apply Kd.R_drewN | apply Kd.R_drew)); exact HW.out) hb); have n1_ := Aside0.mk (Kd.R_below (by (with_reducible repeat (first | apply Kd.R_alloc | apply Kd.R_drewN | apply Kd.R_drew)); exact HM.out) hb); have n2_ := Aside0.mk (Kd.R_below (by (with_reducible repeat (first | apply Kd.R_alloc | apply Kd.R_drewN | apply Kd.R_drew)); exact HH.out) hb); have nb_ := Aside0.mk (below_step (by repeat (first | (with_reducible first | exact HB.out | apply below_alloc | apply pw_below_drewN | apply below_drew1) | exact HB.out)) hb); clear HW; clear HM; clear HH; clear HB; have HW := n0_; have HM := n1_; have HH := n2_; have HB := nb_; clear n0_ n1_ n2_ nb_; clear hb) | ((with_reducible refine gate_callee (f := 11) rfl ?_); refine goesL_ (some 87) rfl rfl Try.func11 (by kernel_rfl) rfl #[.slice Ag r.length cg, .int .i64 101] rfl (by (try simp only [List.map_toArray, List.map_cons, List.map_nil]); first | done | rfl | (simp only [List.length_drop, List.length_take]; rfl) | (go_simp; done) | (simp; done) | (simp; rfl)) ?_; (with_reducible refine (hheld _ _ _ ?side1 ?side2).mono ?_); (case side1 => exact (Kd.R_reads' (by (with_reducible repeat (first | apply Kd.R_alloc | apply Kd.R_drewN | apply Kd.R_drew)); exact HM.out)).2.2); (case side2 => exact (Kd.R_reads' HM.out |> fun z_ => z_.1 ▸ z_.2.1)); rintro e wn ⟨rfl, hd⟩; have hb := drawn_below hd; clear hd; refine ⟨_, rfl, ?_⟩; have n0_ := Aside0.mk (Kd.R_below (by (with_reducible repeat (first | apply Kd.R_alloc | apply Kd.R_drewN | apply Kd.R_drew)); exact HM.out) hb); have nb_ := Aside0.mk (below_step (by repeat (first | (with_reducible first | exact HB.out | apply below_alloc | apply pw_below_drewN | apply below_drew1) | exact HB.out)) hb); clear HM; clear HB; have HM := n0_; have HB := nb_; clear n0_ nb_; clear hb))
  go_ret
  exact ⟨by first | rfl | (simp [errW_none, errW_some] <;> rfl) | (simp [*, errW_none, errW_some] <;> rfl), by repeat (first | (with_reducible first | exact HB.out | apply below_alloc | apply pw_below_drewN | apply below_drew1) | exact HB.out)⟩
set_option maxHeartbeats 8000000 in
set_option maxRecDepth 100000 in
theorem big (A0 : Option Addr) (c0 : Nat) (l0 : List Int) (w : World) (hz : 1000000 < l0.length) : Calls Try.prog 3 #[.slice A0 l0.length c0] w fun e w' => e = .returned (.bool true) ∧ Below w.heap.size w w' := by
  have HB := Aside0.mk (Below.refl w.heap.size w)
  have c1b0 : decide (1000000 < (l0.length : Int)) = true := decide_eq_true (by omega)
  have c1b1 : decide (1000000 < l0.length) = true := decide_eq_true (by omega)
  clear hz
  go_enter Try.func3, Try.ntmps3
  go_wp2
  go_ret
  exact ⟨by first | rfl | (simp [errW_none, errW_some] <;> rfl) | (simp [*, errW_none, errW_some] <;> rfl), by repeat (first | (with_reducible first | exact HB.out | apply below_alloc | apply pw_below_drewN | apply below_drew1) | exact HB.out)⟩
theorem walk (W : World) (a0 : Option Addr) (len0 cap0 : Nat) (z0 : List Int) (w0 : (a0 = none ∧ len0 = 0 ∧ cap0 = 0 ∧ z0 = []) ∨ ∃ x, a0 = some x ∧ len0 ≤ cap0 ∧ cap0 ≤ maxLen ∧ z0.length = cap0 ∧ (∀ i, i < z0.length → W.cell? (x.add i) = some (.int .i64 (z0.getD i 0))) ∧ ∀ n ∈ z0, (Lit.int .i64 n).wf = true) (y0 : len0 * 8 ≤ 140737488351232) :
    Calls Try.prog 3 #[.slice a0 len0 cap0] W fun e w' => e = .returned (.bool true) ∧ Below W.heap.size W w' := by
  obtain ⟨l0, rfl, hr0, hm0, hw0, hc0⟩ := ReadsInt.ofRowC w0
  have hr := Kd.C_of_reads (d := (0 : Int)) (h1 := fun _ => rfl) hr0
  by_cases g : 1000000 < l0.length
  · exact big a0 cap0 l0 W g
  obtain ⟨room, er, r0, r1⟩ := room_some l0.length (by omega)
  obtain ⟨L, eF, hF, hT⟩ := toInt64SF_ev l0 (by omega) er r0 r1
  have hlr : (sortM l0).length ≤ l0.length := by
    unfold sortM
    split
    · rw [(srt_perm _).length_eq]; omega
    · simp
  have hspec := spec_SortNumbers_own l0 (by omega)
  obtain ⟨K1, h1⟩ := impl_SortNumbers_ev l0 (by omega)
  obtain ⟨K2, h2⟩ := eqInt64S_ev (sortM l0) (by omega)
  obtain ⟨K3, h3⟩ := eF
  obtain ⟨K4, h4⟩ := toInt64S_bare l0 (by omega)
  obtain ⟨K5, h5⟩ := eqInt64S_ev L (by omega)
  obtain ⟨K6, h6⟩ := markInt64S_ev l0 (m := 101) (by omega) (by omega)
  obtain ⟨K7, h7⟩ := markInt64S_ev (sortM l0) (m := 101) (by omega) (by omega)
  obtain ⟨K8, h8⟩ := heldInt64S_ev (n := (sortM l0).length) (m := 101) (by omega) (by omega)
  exact go (K1 + K2 + K3 + K4 + K5 + K6 + K7 + K8) a0 cap0 l0 (sortM l0) L _ _ (sortT l0) _ _ room W hr hc0 (by omega) (h3 _ (by omega)) hT (by omega) (by omega) er r0 (by omega) (h4 _ (by omega)) hspec (h1 _ (by omega)) (h2 _ (by omega)) (h5 _ (by omega)) (h6 _ (by omega)) (by omega) (h7 _ (by omega)) (by omega) (mkI_len _ _) (h8 _ (by omega))


end Go.Proofs.Ytfchbmjpgpdefaa.GoFnExactSortNumbers
