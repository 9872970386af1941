/- Sums and products of fractions do not depend on the order, and comparing turns round; no condition. -/
import Derived.Test.YtifjnmlokjfcjaaMa
import Derived.Test.YtifjnmlokjfcjaaQFnFractionsx
import Derived.Test.YtifjnmlokjfcjaaHandFnFractions
namespace Go.Proofs.Ytifjnmlokjfcjaa.GoFnFractions
open Go.RowKit Go.Proofs.Ytifjnmlokjfcjaa.QFnFractions Go.Proofs.YtifjnmlokjfcjaaW.PrintWords Go.Proofs.YtifjnmlokjfcjaaW.PrintLast Go.Proofs.Ytifjnmlokjfcjaa.Ma Go.Proofs.Ytifjnmlokjfcjaa.HandFnFractions
set_option linter.unusedVariables false
set_option linter.unusedSimpArgs false

/-! ### division, ranges -/
theorem in_eq (a b c : Int) : spec_l01In.f a b c = some (decide (b ≤ a ∧ a ≤ c)) := by
  unfold spec_l01In.f
  by_cases h : b ≤ a <;> simp [h]
theorem within_eq (a b c : Int) : impl_within.f a b c = some (decide (b ≤ a ∧ a ≤ c)) := by
  unfold impl_within.f
  by_cases h : b ≤ a <;> simp [h]
theorem tdiv_floor {a b : Int} (hb : 0 < b) : (Int.tmod a b < 0 → Int.tdiv a b - 1 = a / b) ∧ (¬ Int.tmod a b < 0 → Int.tdiv a b = a / b) := by
  have h1 := Int.tdiv_eq_ediv (a := a) (b := b)
  have h2 := Int.tmod_eq_emod (a := a) (b := b)
  have h3 := Int.emod_nonneg a (show b ≠ 0 by omega)
  have h4 := Int.emod_lt_of_pos a hb
  by_cases h : 0 ≤ a ∨ b ∣ a
  · rw [if_pos h] at h1 h2
    omega
  · rw [if_neg h] at h1 h2
    rw [Int.sign_eq_one_of_pos hb] at h1
    omega
theorem ediv_small {a b : Int} (hb : 0 < b) (h : -4611686018427387904 ≤ a) (h' : a ≤ 4611686018427387904) : -4611686018427387904 ≤ a / b ∧ a / b ≤ 4611686018427387904 := by
  have h1 : -4611686018427387904 * b ≤ a := by
    have := Int.mul_le_mul_of_nonneg_left (show 1 ≤ b by omega) (show (0 : Int) ≤ 4611686018427387904 by omega); omega
  have h2 : a < (4611686018427387904 + 1) * b := by
    have := Int.mul_le_mul_of_nonneg_left (show 1 ≤ b by omega) (show (0 : Int) ≤ 4611686018427387905 by omega); omega
  have h3 := (Int.le_ediv_iff_mul_le hb).2 h1
  have h4 := (Int.ediv_lt_iff_lt_mul hb).2 h2
  omega
/-! ### fractions -/
theorem mx_max (a b : Int) : mx a b = max a b := by unfold mx; omega
def gc (a b : Int) : Int := (a.natAbs.gcd b.natAbs : Nat)
theorem gcd_step {a b : Int} (ha : 0 ≤ a) (hb : 0 < b) : gc b (Int.tmod a b) = gc a b := by
  unfold gc
  rw [Int.tmod_eq_emod_of_nonneg ha, Nat.gcd_comm a.natAbs, Nat.gcd_rec b.natAbs a.natAbs, Nat.gcd_comm (a.natAbs % b.natAbs)]
  have e : (a % b).natAbs = a.natAbs % b.natAbs := by
    obtain ⟨m, rfl⟩ := Int.eq_ofNat_of_zero_le ha
    obtain ⟨n, rfl⟩ := Int.eq_ofNat_of_zero_le (show 0 ≤ b by omega)
    rw [← Int.natCast_emod]; simp only [Int.natAbs_natCast]
  rw [e]
theorem gcd_zero {a : Int} (ha : 0 ≤ a) : gc a 0 = a := by unfold gc; simp; omega
theorem spec_l01Gcd_l0 : ∀ (n : Nat) (a b : Int), b = n → 0 ≤ a → Ev (fun k => spec_l01Gcd.l0 k a b) (gc a b) := by
  intro n
  induction n using Nat.strongRecOn with
  | ind n ih =>
    intro a b hb ha
    by_cases h : b = 0
    · subst h
      exact Ev.step (fun k => spec_l01Gcd.l0.eq_2 ..) (ev_pos rfl (ev_ret (gcd_zero ha).symm))
    · have h1 := Int.emod_lt_of_pos a (show 0 < b by omega)
      have h2 := Int.emod_nonneg a h
      have h3 := Int.tmod_eq_emod_of_nonneg (b := b) ha
      have := ih (Int.tmod a b).toNat (by omega) b (Int.tmod a b) (by omega) (by omega)
      rw [gcd_step ha (by omega)] at this
      exact Ev.step (fun k => spec_l01Gcd.l0.eq_2 ..) (ev_neg h this)
theorem impl_divisor_l0 : ∀ (n : Nat) (a b : Int), b = n → 0 ≤ a → Ev (fun k => impl_divisor.l0 k a b) (gc a b) := by
  intro n
  induction n using Nat.strongRecOn with
  | ind n ih =>
    intro a b hb ha
    by_cases h : b = 0
    · subst h
      exact Ev.step (fun k => impl_divisor.l0.eq_2 ..) (ev_pos rfl (ev_ret (gcd_zero ha).symm))
    · have h1 := Int.emod_lt_of_pos a (show 0 < b by omega)
      have h2 := Int.emod_nonneg a h
      have h3 := Int.tmod_eq_emod_of_nonneg (b := b) ha
      have := ih (Int.tmod a b).toNat (by omega) b (Int.tmod a b) (by omega) (by omega)
      rw [gcd_step ha (by omega)] at this
      exact Ev.step (fun k => impl_divisor.l0.eq_2 ..) (ev_neg h this)
theorem gc_abs (a b : Int) : gc (max a (-a)) b = gc a b := by unfold gc; congr 2; omega
theorem gc_abs2 (a b : Int) : gc a (max b (-b)) = gc a b := by unfold gc; congr 2; omega
theorem l01Abs_eq {a : Int} (h : -4611686018427387904 ≤ a) (h' : a ≤ 4611686018427387904) : spec_l01Abs.f a = some (max a (-a)) := by
  unfold spec_l01Abs.f; rw [w64 (by omega) (by omega), mx_max]
theorem abs_eq {a : Int} (h : -4611686018427387904 ≤ a) (h' : a ≤ 4611686018427387904) : impl_abs.f a = some (max a (-a)) := by
  unfold impl_abs.f
  by_cases g : a < 0
  · rw [if_pos g, w64 (by omega) (by omega)]; congr 1; omega
  · rw [if_neg g]; congr 1; omega
theorem l01Gcd_ev {a b : Int} (h : -4611686018427387904 ≤ a) (h' : a ≤ 4611686018427387904) (k : -4611686018427387904 ≤ b) (k' : b ≤ 4611686018427387904) : Ev (fun k => spec_l01Gcd.f k a b) (gc a b) := by
  have e := spec_l01Gcd_l0 (max b (-b)).toNat (max a (-a)) (max b (-b)) (by omega) (by omega)
  rw [gc_abs, gc_abs2] at e
  exact ev_bind0 (l01Abs_eq h h') (ev_bind0 (l01Abs_eq k k') e)
theorem divisor_ev {a b : Int} (ha : 0 ≤ a) (hb : 0 ≤ b) : Ev (fun k => impl_divisor.f k a b) (gc a b) := impl_divisor_l0 b.toNat a b (by omega) ha
/-- is it a fraction? -/
def RatioB (n d : Int) : Bool := decide (-1000000000 ≤ n ∧ n ≤ 1000000000) && decide (1 ≤ d ∧ d ≤ 1000000000) && (gc n d == 1)
theorem ratioB_true {n d : Int} (h : RatioB n d = true) : (-1000000000 ≤ n ∧ n ≤ 1000000000) ∧ (1 ≤ d ∧ d ≤ 1000000000) ∧ gc n d = 1 := by
  unfold RatioB at h
  simp only [Bool.and_eq_true, decide_eq_true_eq, beq_iff_eq] at h
  exact ⟨h.1.1, h.1.2, h.2⟩
theorem spec_IsRatio_ev (n d : Int) : Ev (fun k => spec_IsRatio.f k n d) (RatioB n d) := by
  unfold spec_IsRatio.f RatioB
  simp only [in_eq, Option.bind_some]
  by_cases a : -1000000000 ≤ n ∧ n ≤ 1000000000
  · refine ev_pos (by simpa using a) ?_
    by_cases b : 1 ≤ d ∧ d ≤ 1000000000
    · refine ev_pos (by simpa using b) ?_
      refine (l01Gcd_ev (by omega) (by omega) (by omega) (by omega)).bind (ev_ret ?_)
      simp [a, b]
    · exact ev_neg (by simpa using b) (ev_ret (by simp [b]))
  · exact ev_neg (by simpa using a) (ev_ret (by simp [a]))
theorem impl_IsRatio_ev (n d : Int) : Ev (fun k => impl_IsRatio.f k n d) (RatioB n d) := by
  unfold impl_IsRatio.f RatioB
  simp only [within_eq, Option.bind_some]
  by_cases a : -1000000000 ≤ n ∧ n ≤ 1000000000
  · refine ev_pos (by simpa using a) ?_
    by_cases b : 1 ≤ d ∧ d ≤ 1000000000
    · refine ev_pos (by simpa using b) ?_
      have e := divisor_ev (a := max n (-n)) (b := d) (by omega) (by omega)
      rw [gc_abs] at e
      refine ev_bind0 (abs_eq (by omega) (by omega)) (e.bind (ev_ret ?_))
      simp [a, b]
    · exact ev_neg (by simpa using b) (ev_ret (by simp [b]))
  · exact ev_neg (by simpa using a) (ev_ret (by simp [a]))

theorem tdiv_small {a b : Int} (h : -4611686018427387904 ≤ a) (h' : a ≤ 4611686018427387904) : -4611686018427387904 ≤ Int.tdiv a b ∧ Int.tdiv a b ≤ 4611686018427387904 := by
  have := Int.natAbs_tdiv_le_natAbs a b
  omega
theorem gc_pos {a b : Int} (hb : b ≠ 0) : 0 < gc a b := by
  unfold gc
  have := Nat.gcd_pos_of_pos_right a.natAbs (show 0 < b.natAbs by omega)
  omega
/-- a quotient, brought to its lowest terms; the denominator is greater than 0 -/
def mkP (n d : Int) : Int × Int × Int := if RatioB (Int.tdiv n (gc n d)) (Int.tdiv d (gc n d)) = true then (Int.tdiv n (gc n d), Int.tdiv d (gc n d), 0) else (0, 0, 3)
def mkR (n d : Int) : Int × Int × Int := if d < 0 then mkP (-n) (-d) else mkP n d
theorem spec_l02Make_j0 {n d : Int} (h : -4611686018427387904 ≤ n) (h' : n ≤ 4611686018427387904) (k : 0 < d) (k' : d ≤ 4611686018427387904) : Ev (fun k => spec_l02Make.j0 k n d) (mkP n d) := by
  have g := gc_pos (a := n) (b := d) (by omega)
  have t1 := tdiv_small (b := gc n d) h h'
  have t2 := tdiv_small (a := d) (b := gc n d) (by omega) k'
  refine Ev.step (fun k => spec_l02Make.j0.eq_2 ..) ((l01Gcd_ev h h' (by omega) k').bind (ev_neg (by omega) ?_))
  rw [w64 (n := Int.tdiv n (gc n d)) (by omega) (by omega), w64 (n := Int.tdiv d (gc n d)) (by omega) (by omega)]
  refine (spec_IsRatio_ev _ _).bind ?_
  unfold mkP
  by_cases c : RatioB (Int.tdiv n (gc n d)) (Int.tdiv d (gc n d)) = true
  · exact ev_pos c (ev_ret (by rw [if_pos c]))
  · exact ev_neg c (ev_ret (by rw [if_neg c]))
theorem spec_l02Make_ev {n d : Int} (h : -4611686018427387904 ≤ n) (h' : n ≤ 4611686018427387904) (k : -4611686018427387904 ≤ d) (k' : d ≤ 4611686018427387904) (hd : d ≠ 0) : Ev (fun k => spec_l02Make.f k n d) (mkR n d) := by
  unfold spec_l02Make.f mkR
  by_cases c : d < 0
  · refine ev_pos c ?_
    rw [w64 (by omega) (by omega), w64 (by omega) (by omega), if_pos c]
    exact spec_l02Make_j0 (by omega) (by omega) (by omega) (by omega)
  · refine ev_neg c ?_
    rw [if_neg c]
    exact spec_l02Make_j0 h h' (by omega) k'
theorem impl_reduced_j0 {n d : Int} (h : -4611686018427387904 ≤ n) (h' : n ≤ 4611686018427387904) (k : 0 < d) (k' : d ≤ 4611686018427387904) : Ev (fun k => impl_reduced.j0 k n d) (mkP n d) := by
  have g := gc_pos (a := n) (b := d) (by omega)
  have t1 := tdiv_small (b := gc n d) h h'
  have t2 := tdiv_small (a := d) (b := gc n d) (by omega) k'
  have e := divisor_ev (a := max n (-n)) (b := d) (by omega) (by omega)
  rw [gc_abs] at e
  refine Ev.step (fun k => impl_reduced.j0.eq_2 ..) (ev_bind0 (abs_eq h h') (e.bind (ev_neg (by omega) ?_)))
  rw [w64 (n := Int.tdiv n (gc n d)) (by omega) (by omega), w64 (n := Int.tdiv d (gc n d)) (by omega) (by omega)]
  refine (impl_IsRatio_ev _ _).bind ?_
  unfold mkP
  by_cases c : RatioB (Int.tdiv n (gc n d)) (Int.tdiv d (gc n d)) = true
  · exact ev_pos c (ev_ret (by rw [if_pos c]))
  · exact ev_neg c (ev_ret (by rw [if_neg c]))
theorem impl_reduced_ev {n d : Int} (h : -4611686018427387904 ≤ n) (h' : n ≤ 4611686018427387904) (k : -4611686018427387904 ≤ d) (k' : d ≤ 4611686018427387904) (hd : d ≠ 0) : Ev (fun k => impl_reduced.f k n d) (mkR n d) := by
  unfold impl_reduced.f mkR
  by_cases c : d < 0
  · refine ev_pos c ?_
    rw [w64 (by omega) (by omega), w64 (by omega) (by omega), if_pos c]
    exact impl_reduced_j0 (by omega) (by omega) (by omega) (by omega)
  · refine ev_neg c ?_
    rw [if_neg c]
    exact impl_reduced_j0 h h' (by omega) k'

theorem prod_bound {x y A B : Int} (h : -A ≤ x) (h' : x ≤ A) (k : -B ≤ y) (k' : y ≤ B) (hA : 0 ≤ A) (hB : 0 ≤ B) : -(A * B) ≤ x * y ∧ x * y ≤ A * B := by
  have e1 := Int.mul_nonneg (show 0 ≤ A - x by omega) (show 0 ≤ B - y by omega)
  have e2 := Int.mul_nonneg (show 0 ≤ A + x by omega) (show 0 ≤ B + y by omega)
  have e3 := Int.mul_nonneg (show 0 ≤ A - x by omega) (show 0 ≤ B + y by omega)
  have e4 := Int.mul_nonneg (show 0 ≤ A + x by omega) (show 0 ≤ B - y by omega)
  rw [Int.sub_mul, Int.mul_sub, Int.mul_sub] at e1
  rw [Int.add_mul, Int.mul_add, Int.mul_add] at e2
  rw [Int.sub_mul, Int.mul_add, Int.mul_add] at e3
  rw [Int.add_mul, Int.mul_sub, Int.mul_sub] at e4
  omega
/-- -1, 0 or 1 -/
def cmpI (a b : Int) : Int := if a < b then -1 else if b < a then 1 else 0
def compareM (an ad bn bd : Int) : Int × Int := if RatioB an ad = true ∧ RatioB bn bd = true then (cmpI (an * bd) (bn * ad), 0) else (0, 1)
theorem cross_bound {an ad bn bd : Int} (h : RatioB an ad = true) (h' : RatioB bn bd = true) : (-1000000000000000000 ≤ an * bd ∧ an * bd ≤ 1000000000000000000) ∧ (-1000000000000000000 ≤ bn * ad ∧ bn * ad ≤ 1000000000000000000) ∧ (1 ≤ ad * bd ∧ ad * bd ≤ 1000000000000000000) := by
  obtain ⟨a, b, _⟩ := ratioB_true h
  obtain ⟨c, d, _⟩ := ratioB_true h'
  have e1 := prod_bound (x := an) (y := bd) (A := 1000000000) (B := 1000000000) (by omega) (by omega) (by omega) (by omega) (by omega) (by omega)
  have e2 := prod_bound (x := bn) (y := ad) (A := 1000000000) (B := 1000000000) (by omega) (by omega) (by omega) (by omega) (by omega) (by omega)
  have e3 := prod_bound (x := ad) (y := bd) (A := 1000000000) (B := 1000000000) (by omega) (by omega) (by omega) (by omega) (by omega) (by omega)
  have e4 := Int.mul_pos (show 0 < ad by omega) (show 0 < bd by omega)
  omega
theorem impl_CompareRatios_ev (an ad bn bd : Int) : Ev (fun k => impl_CompareRatios.f k an ad bn bd) (compareM an ad bn bd) := by
  unfold impl_CompareRatios.f compareM
  refine (impl_IsRatio_ev an ad).bind ?_
  by_cases h : RatioB an ad = true
  · refine ev_pos h ((impl_IsRatio_ev bn bd).bind ?_)
    by_cases h' : RatioB bn bd = true
    · refine ev_pos h' ?_
      obtain ⟨a, b, c⟩ := cross_bound h h'
      rw [w64 (by omega) (by omega), w64 (by omega) (by omega), if_pos ⟨h, h'⟩]
      refine ev_bind0 (b := cmpI (an * bd) (bn * ad)) ?_ (Ev.now _)
      unfold impl_compare.f cmpI
      by_cases u : an * bd < bn * ad
      · rw [if_pos u, if_pos u]
      · rw [if_neg u, if_neg u]
        by_cases v : bn * ad < an * bd
        · rw [if_pos v, if_pos v]
        · rw [if_neg v, if_neg v]
    · exact ev_neg h' (ev_ret (by rw [if_neg (by simp [h'])]))
  · exact ev_neg h (ev_ret (by rw [if_neg (by simp [h])]))
theorem spec_CompareRatios_ev (an ad bn bd : Int) : Ev (fun k => spec_CompareRatios.f k an ad bn bd) (compareM an ad bn bd) := by
  unfold spec_CompareRatios.f compareM
  refine (spec_IsRatio_ev an ad).bind ?_
  by_cases h : RatioB an ad = true
  · refine ev_pos h ((spec_IsRatio_ev bn bd).bind ?_)
    by_cases h' : RatioB bn bd = true
    · refine ev_pos h' ?_
      obtain ⟨a, b, c⟩ := cross_bound h h'
      rw [if_pos ⟨h, h'⟩]
      refine ev_bind0 (b := cmpI (an * bd) (bn * ad)) ?_ (Ev.now _)
      unfold spec_l02Compare.f cmpI
      rw [w64 (n := an * bd) (by omega) (by omega), w64 (n := bn * ad) (by omega) (by omega), w64 (by omega) (by omega)]
      by_cases u : an * bd < bn * ad
      · rw [if_pos (by omega), if_pos u]
      · rw [if_neg (by omega), if_neg u]
        by_cases v : bn * ad < an * bd
        · rw [if_pos (by omega), if_pos v]
        · rw [if_neg (by omega), if_neg v]
    · exact ev_neg h' (ev_ret (by rw [if_neg (by simp [h'])]))
  · exact ev_neg h (ev_ret (by rw [if_neg (by simp [h])]))

def addM (an ad bn bd : Int) : Int × Int × Int := if RatioB an ad = true ∧ RatioB bn bd = true then mkR (an * bd + bn * ad) (ad * bd) else (0, 0, 1)
def mulM (an ad bn bd : Int) : Int × Int × Int := if RatioB an ad = true ∧ RatioB bn bd = true then mkR (an * bn) (ad * bd) else (0, 0, 1)
theorem num_bound {an ad bn bd : Int} (h : RatioB an ad = true) (h' : RatioB bn bd = true) : -1000000000000000000 ≤ an * bn ∧ an * bn ≤ 1000000000000000000 := by
  obtain ⟨a, b, _⟩ := ratioB_true h
  obtain ⟨c, d, _⟩ := ratioB_true h'
  have e1 := prod_bound (x := an) (y := bn) (A := 1000000000) (B := 1000000000) (by omega) (by omega) (by omega) (by omega) (by omega) (by omega)
  omega
theorem impl_AddRatios_ev (an ad bn bd : Int) : Ev (fun k => impl_AddRatios.f k an ad bn bd) (addM an ad bn bd) := by
  unfold impl_AddRatios.f addM
  refine (impl_IsRatio_ev an ad).bind ?_
  by_cases h : RatioB an ad = true
  · refine ev_pos h ((impl_IsRatio_ev bn bd).bind ?_)
    by_cases h' : RatioB bn bd = true
    · refine ev_pos h' ?_
      obtain ⟨a, b, c⟩ := cross_bound h h'
      rw [w64 (n := an * bd) (by omega) (by omega), w64 (n := bn * ad) (by omega) (by omega), w64 (by omega) (by omega), w64 (by omega) (by omega), if_pos ⟨h, h'⟩]
      exact (impl_reduced_ev (by omega) (by omega) (by omega) (by omega) (by omega)).bind (Ev.now _)
    · exact ev_neg h' (ev_ret (by rw [if_neg (by simp [h'])]))
  · exact ev_neg h (ev_ret (by rw [if_neg (by simp [h])]))
theorem spec_AddRatios_ev (an ad bn bd : Int) : Ev (fun k => spec_AddRatios.f k an ad bn bd) (addM an ad bn bd) := by
  unfold spec_AddRatios.f addM
  refine (spec_IsRatio_ev an ad).bind ?_
  by_cases h : RatioB an ad = true
  · refine ev_pos h ((spec_IsRatio_ev bn bd).bind ?_)
    by_cases h' : RatioB bn bd = true
    · refine ev_pos h' ?_
      obtain ⟨a, b, c⟩ := cross_bound h h'
      rw [w64 (n := an * bd) (by omega) (by omega), w64 (n := bn * ad) (by omega) (by omega), w64 (by omega) (by omega), w64 (by omega) (by omega), if_pos ⟨h, h'⟩]
      exact (spec_l02Make_ev (by omega) (by omega) (by omega) (by omega) (by omega)).bind (Ev.now _)
    · exact ev_neg h' (ev_ret (by rw [if_neg (by simp [h'])]))
  · exact ev_neg h (ev_ret (by rw [if_neg (by simp [h])]))
theorem impl_MultiplyRatios_ev (an ad bn bd : Int) : Ev (fun k => impl_MultiplyRatios.f k an ad bn bd) (mulM an ad bn bd) := by
  unfold impl_MultiplyRatios.f mulM
  refine (impl_IsRatio_ev an ad).bind ?_
  by_cases h : RatioB an ad = true
  · refine ev_pos h ((impl_IsRatio_ev bn bd).bind ?_)
    by_cases h' : RatioB bn bd = true
    · refine ev_pos h' ?_
      obtain ⟨a, b, c⟩ := cross_bound h h'
      have e := num_bound h h'
      rw [w64 (by omega) (by omega), w64 (by omega) (by omega), if_pos ⟨h, h'⟩]
      exact (impl_reduced_ev (by omega) (by omega) (by omega) (by omega) (by omega)).bind (Ev.now _)
    · exact ev_neg h' (ev_ret (by rw [if_neg (by simp [h'])]))
  · exact ev_neg h (ev_ret (by rw [if_neg (by simp [h])]))
theorem spec_MultiplyRatios_ev (an ad bn bd : Int) : Ev (fun k => spec_MultiplyRatios.f k an ad bn bd) (mulM an ad bn bd) := by
  unfold spec_MultiplyRatios.f mulM
  refine (spec_IsRatio_ev an ad).bind ?_
  by_cases h : RatioB an ad = true
  · refine ev_pos h ((spec_IsRatio_ev bn bd).bind ?_)
    by_cases h' : RatioB bn bd = true
    · refine ev_pos h' ?_
      obtain ⟨a, b, c⟩ := cross_bound h h'
      have e := num_bound h h'
      rw [w64 (by omega) (by omega), w64 (by omega) (by omega), if_pos ⟨h, h'⟩]
      exact (spec_l02Make_ev (by omega) (by omega) (by omega) (by omega) (by omega)).bind (Ev.now _)
    · exact ev_neg h' (ev_ret (by rw [if_neg (by simp [h'])]))
  · exact ev_neg h (ev_ret (by rw [if_neg (by simp [h])]))

def makeM (n d : Int) : Int × Int × Int := if (-1000000000000 ≤ n ∧ n ≤ 1000000000000) ∧ (-1000000000000 ≤ d ∧ d ≤ 1000000000000) then (if d = 0 then (0, 0, 5) else mkR n d) else (0, 0, 2)
theorem impl_MakeRatio_ev (n d : Int) : Ev (fun k => impl_MakeRatio.f k n d) (makeM n d) := by
  unfold impl_MakeRatio.f impl_isValue.f makeM
  simp only [within_eq, Option.bind_some]
  by_cases a : -1000000000000 ≤ n ∧ n ≤ 1000000000000
  · refine ev_pos (by simpa using a) (Ev.step (fun k => impl_MakeRatio.j0.eq_2 ..) ?_)
    by_cases b : -1000000000000 ≤ d ∧ d ≤ 1000000000000
    · refine ev_neg (by simpa using b) ?_
      rw [if_pos ⟨a, b⟩]
      by_cases c : d = 0
      · exact ev_pos c (ev_ret (by rw [if_pos c]))
      · refine ev_neg c ?_
        rw [if_neg c]
        exact (impl_reduced_ev (by omega) (by omega) (by omega) (by omega) c).bind (Ev.now _)
    · exact ev_pos (by simp; omega) (ev_ret (by rw [if_neg (by omega)]))
  · exact ev_neg (by simpa using a) (Ev.step (fun k => impl_MakeRatio.j0.eq_2 ..) (ev_pos rfl (ev_ret (by rw [if_neg (by omega)]))))
theorem spec_MakeRatio_ev (n d : Int) : Ev (fun k => spec_MakeRatio.f k n d) (makeM n d) := by
  unfold spec_MakeRatio.f spec_l01Is.f makeM
  simp only [in_eq, Option.bind_some]
  by_cases a : -1000000000000 ≤ n ∧ n ≤ 1000000000000
  · refine ev_pos (by simpa using a) (Ev.step (fun k => spec_MakeRatio.j0.eq_2 ..) ?_)
    by_cases b : -1000000000000 ≤ d ∧ d ≤ 1000000000000
    · refine ev_neg (by simpa using b) ?_
      rw [if_pos ⟨a, b⟩]
      by_cases c : d = 0
      · exact ev_pos c (ev_ret (by rw [if_pos c]))
      · refine ev_neg c ?_
        rw [if_neg c]
        exact (spec_l02Make_ev (by omega) (by omega) (by omega) (by omega) c).bind (Ev.now _)
    · exact ev_pos (by simp; omega) (ev_ret (by rw [if_neg (by omega)]))
  · exact ev_neg (by simpa using a) (Ev.step (fun k => spec_MakeRatio.j0.eq_2 ..) (ev_pos rfl (ev_ret (by rw [if_neg (by omega)]))))

/-! ### numbers that follow from a code -/
def Code (c : List Int) : Prop := (∀ x ∈ c, 0 ≤ x ∧ x ≤ 255) ∧ c.length ≤ 5000
def Src (c : List Int) (a s : Int) : Prop := Code c ∧ (0 ≤ a ∧ a ≤ c.length) ∧ 0 ≤ s ∧ s < 2147483647
theorem rd_code {c : List Int} (h : Code c) {i : Int} (h0 : 0 ≤ i) (h1 : i < c.length) : 0 ≤ rd c i ∧ rd c i ≤ 255 := by
  unfold rd
  have hi : i.toNat < c.length := by omega
  rw [List.getD_eq_getElem?_getD, List.getElem?_eq_getElem hi]
  exact h.1 _ (List.getElem_mem hi)
theorem tmod_nn {a b : Int} (ha : 0 ≤ a) : Int.tmod a b = a % b := Int.tmod_eq_emod_of_nonneg ha
theorem tmod_in {a b : Int} (ha : 0 ≤ a) (hb : 0 < b) : 0 ≤ Int.tmod a b ∧ Int.tmod a b < b := by
  rw [tmod_nn ha]
  exact ⟨Int.emod_nonneg a (by omega), Int.emod_lt_of_pos a hb⟩
theorem l01Next_some {c : List Int} {a s n : Int} (h : Src c a s) (hn : n ≤ 4611686018427387904) : ∃ x a' s', spec_l01Next.f c a s n = some (x, a', s') ∧ Src c a' s' ∧ 0 ≤ x ∧ (1 ≤ n → x < n) ∧ (n ≤ 1 → x = 0) := by
  obtain ⟨hc, ⟨a0, a1⟩, s0, s1⟩ := h
  have hl := hc.2
  unfold spec_l01Next.f
  by_cases g : n ≤ 1
  · rw [if_pos g]
    exact ⟨0, a, s, rfl, ⟨hc, ⟨a0, a1⟩, s0, s1⟩, by omega, by omega, by omega⟩
  · rw [if_neg g]
    have e1 : wrap64 ((wrap64 (s * 48271)) + 29) = s * 48271 + 29 := by
      rw [w64 (n := s * 48271) (by omega) (by omega), w64 (by omega) (by omega)]
    have e2 := tmod_in (a := s * 48271 + 29) (b := 2147483647) (by omega) (by omega)
    rw [e1]
    generalize Int.tmod (s * 48271 + 29) 2147483647 = s' at *
    have e3 : wrap64 (Int.tdiv s' 31) = s' / 31 := by rw [Int.tdiv_eq_ediv_of_nonneg (by omega), w64 (by omega) (by omega)]
    rw [e3]
    by_cases g1 : a < (c.length : Int)
    · have hr := rd_code hc a0 g1
      rw [if_pos g1, if_pos a0, w64 (n := a + 1) (by omega) (by omega), w64 (n := a + 1 - 1) (by omega) (by omega), show a + 1 - 1 = a by omega, w64 (n := rd c a) (by omega) (by omega), w64 (n := s' / 31 + rd c a) (by omega) (by omega)]
      have t1 := tmod_in (a := rd c a) (b := n) (by omega) (by omega)
      have t2 := tmod_in (a := s' / 31 + rd c a) (b := n) (by omega) (by omega)
      have fin : Src c (a + 1) s' := ⟨hc, ⟨by omega, by omega⟩, e2⟩
      by_cases g2 : n ≤ 256
      · rw [if_pos g2]
        by_cases g3 : Int.tmod (a + 1) 2 = 0
        · rw [if_pos g3, if_pos a0, if_pos g1, if_neg (by omega)]
          exact ⟨_, _, _, rfl, fin, t1.1, fun _ => t1.2, by omega⟩
        · rw [if_neg g3, if_neg (by omega)]
          exact ⟨_, _, _, rfl, fin, t2.1, fun _ => t2.2, by omega⟩
      · rw [if_neg g2, if_neg (by omega)]
        exact ⟨_, _, _, rfl, fin, t2.1, fun _ => t2.2, by omega⟩
    · have t2 := tmod_in (a := s' / 31) (b := n) (by omega) (by omega)
      rw [if_neg g1, if_neg (by omega)]
      exact ⟨_, _, _, rfl, ⟨hc, ⟨a0, a1⟩, e2⟩, t2.1, fun _ => t2.2, by omega⟩
theorem l01Pick_some {c : List Int} {a s : Int} (h : Src c a s) {l : List Int} (hl : 1 ≤ l.length) (hl' : l.length ≤ 1000) : ∃ x a' s', spec_l01Pick.f c a s l = some (x, a', s') ∧ Src c a' s' ∧ x ∈ l := by
  obtain ⟨x, a', s', e, h', x0, x1, _⟩ := l01Next_some h (n := (l.length : Int)) (by omega)
  have x2 := x1 (by omega)
  unfold spec_l01Pick.f
  rw [e, Option.bind_some, if_pos x0, if_pos x2]
  refine ⟨_, _, _, rfl, h', ?_⟩
  unfold rd
  have hi : x.toNat < l.length := by omega
  rw [List.getD_eq_getElem?_getD, List.getElem?_eq_getElem hi]
  exact List.getElem_mem hi
theorem l01From_l0 {c : List Int} (hc : Code c) : ∀ (d : Nat) (i : Int) (s : Int), 64 - i = d → 0 ≤ i → 0 ≤ s → s < 2147483647 → ∃ s', Ev (fun k => spec_l01From.l0 k c i c 0 s) (c, 0, s') ∧ Src c 0 s' := by
  intro d
  have hl := hc.2
  induction d with
  | zero =>
    intro i s hd h0 s0 s1
    refine ⟨s, Ev.step (fun k => spec_l01From.l0.eq_2 ..) ?_, hc, ⟨by omega, by omega⟩, s0, s1⟩
    by_cases g : i < (c.length : Int)
    · exact ev_pos g (ev_neg (by omega) (Ev.now _))
    · exact ev_neg g (Ev.now _)
  | succ d ih =>
    intro i s hd h0 s0 s1
    by_cases g : i < (c.length : Int)
    · have hr := rd_code hc h0 g
      have e1 : wrap64 ((wrap64 (s * 83)) + (wrap64 (rd c i))) = s * 83 + rd c i := by
        rw [w64 (n := s * 83) (by omega) (by omega), w64 (n := rd c i) (by omega) (by omega), w64 (by omega) (by omega)]
      have e2 := tmod_in (a := s * 83 + rd c i) (b := 2147483647) (by omega) (by omega)
      obtain ⟨s', hs, h⟩ := ih (i + 1) (Int.tmod (s * 83 + rd c i) 2147483647) (by omega) (by omega) e2.1 e2.2
      refine ⟨s', Ev.step (fun k => spec_l01From.l0.eq_2 ..) (ev_pos g (ev_pos (by omega) (ev_pos h0 ?_))), h⟩
      rw [e1, w64 (by omega) (by omega)]
      exact hs
    · exact ⟨s, Ev.step (fun k => spec_l01From.l0.eq_2 ..) (ev_neg g (Ev.now _)), hc, ⟨by omega, by omega⟩, s0, s1⟩
theorem l01From_ev {c : List Int} (hc : Code c) : ∃ s, Ev (fun k => spec_l01From.f k c) (c, 0, s) ∧ Src c 0 s :=
  l01From_l0 hc 64 0 61043 (by omega) (by omega) (by omega) (by omega)
/-! ### dice -/
def Dice (c : List Int) (i h : Int) : Prop := Code c ∧ (0 ≤ i ∧ i ≤ c.length) ∧ 0 ≤ h ∧ h ≤ 18446744073709551615
theorem u64w (n : Int) : 0 ≤ IntKind.u64.wrap n ∧ IntKind.u64.wrap n ≤ 18446744073709551615 := by
  have e : IntKind.u64.wrap n = n % 18446744073709551616 := by rfl
  omega
theorem big_false {c : List Int} (h : ¬ (c.length : Int) > 4096) : laws_big.f c = some false := by unfold laws_big.f; simp; omega
theorem big_true {c : List Int} (h : (c.length : Int) > 4096) : laws_big.f c = some true := by unfold laws_big.f; simp; omega
theorem code_of {c : List Int} (h : ∀ x ∈ c, (Lit.int .u8 x).wf = true) (hl : ¬ (c.length : Int) > 4096) : Code c := ⟨fun x hx => bd8 (h x hx), by omega⟩

theorem mkR_or (n d : Int) : RatioB (mkR n d).1 (mkR n d).2.1 = true ∨ mkR n d = (0, 0, 3) := by
  unfold mkR mkP
  split <;> split <;> first | (left; assumption) | (right; rfl)
theorem ratio11 : RatioB 1 1 = true := by decide
theorem ratioB_ne {n d : Int} (h : RatioB n d = true) : d ≠ 0 := by obtain ⟨_, h, _⟩ := ratioB_true h; omega
theorem l02Good_ev {c : List Int} {a s : Int} (h : Src c a s) : ∃ n d a' s', Ev (fun k => spec_l02Good.f k c a s) (n, d, a', s') ∧ Src c a' s' ∧ RatioB n d = true := by
  obtain ⟨x1, a1, s1, e1, h1, b1, c1, _⟩ := l01Next_some h (n := 81) (by omega)
  have c1 := c1 (by omega)
  obtain ⟨x2, a2, s2, e2, h2, b2, c2, _⟩ := l01Next_some h1 (n := 30) (by omega)
  have c2 := c2 (by omega)
  have m := spec_l02Make_ev (n := x1 - 40) (d := 1 + x2) (by omega) (by omega) (by omega) (by omega) (by omega)
  have mo := mkR_or (x1 - 40) (1 + x2)
  rw [← w64 (n := x1 - 40) (by omega) (by omega), ← w64 (n := 1 + x2) (by omega) (by omega)] at m mo
  obtain ⟨x3, a3, s3, e3, h3, _⟩ := l01Next_some h2 (n := 12) (by omega)
  by_cases g : x3 = 0
  · obtain ⟨x4, a4, s4, e4, h4, b4, c4, _⟩ := l01Next_some h3 (n := 1000000000) (by omega)
    have c4 := c4 (by omega)
    obtain ⟨x5, a5, s5, e5, h5, b5⟩ := l01Pick_some h4 (l := [1000000000, (-1000000000), x4]) (by simp) (by simp)
    obtain ⟨x6, a6, s6, e6, h6, b6⟩ := l01Pick_some h5 (l := [1, 999999999, 999999937]) (by simp) (by simp)
    simp only [List.mem_cons, List.not_mem_nil, or_false] at b5 b6
    have m2 := spec_l02Make_ev (n := x5) (d := x6) (by omega) (by omega) (by omega) (by omega) (by omega)
    by_cases g2 : (mkR x5 x6).2.1 = 0
    · exact ⟨_, _, _, _, ev_bind0 e1 (ev_bind0 e2 (m.bind (ev_bind0 e3 (ev_pos g (ev_bind0 e4 (ev_bind0 e5 (ev_bind0 e6 (m2.bind (ev_pos g2 (Ev.now _)))))))))), h6, ratio11⟩
    · refine ⟨_, _, _, _, ev_bind0 e1 (ev_bind0 e2 (m.bind (ev_bind0 e3 (ev_pos g (ev_bind0 e4 (ev_bind0 e5 (ev_bind0 e6 (m2.bind (ev_neg g2 (Ev.now _)))))))))), h6, ?_⟩
      rcases mkR_or x5 x6 with h | h
      · exact h
      · rw [h] at g2; exact absurd rfl g2
  · by_cases g2 : (mkR (wrap64 (x1 - 40)) (wrap64 (1 + x2))).2.1 = 0
    · exact ⟨_, _, _, _, ev_bind0 e1 (ev_bind0 e2 (m.bind (ev_bind0 e3 (ev_neg g (ev_pos g2 (Ev.now _)))))), h3, ratio11⟩
    · refine ⟨_, _, _, _, ev_bind0 e1 (ev_bind0 e2 (m.bind (ev_bind0 e3 (ev_neg g (ev_neg g2 (Ev.now _)))))), h3, ?_⟩
      rcases mo with h | h
      · exact h
      · rw [h] at g2; exact absurd rfl g2
theorem l02Draw_ev {c : List Int} {a s : Int} (h : Src c a s) : ∃ n d a' s', Ev (fun k => spec_l02Draw.f k c a s) (n, d, a', s') ∧ Src c a' s' ∧ (-1000000001 ≤ n ∧ n ≤ 1000000001) ∧ (-1000000001 ≤ d ∧ d ≤ 1000000001) := by
  obtain ⟨x1, a1, s1, e1, h1, b1, c1, _⟩ := l01Next_some h (n := 24) (by omega)
  by_cases g : x1 = 0
  · obtain ⟨x5, a5, s5, e5, h5, b5⟩ := l01Pick_some h1 (l := [2, 0, 1000000001, (-3)]) (by simp) (by simp)
    obtain ⟨x6, a6, s6, e6, h6, b6⟩ := l01Pick_some h5 (l := [4, 0, 2, (-1)]) (by simp) (by simp)
    simp only [List.mem_cons, List.not_mem_nil, or_false] at b5 b6
    exact ⟨_, _, _, _, ev_bind0 e1 (ev_pos g (ev_bind0 e5 (ev_bind0 e6 (Ev.now _)))), h6, by dsimp only; omega, by dsimp only; omega⟩
  · obtain ⟨n, d, a2, s2, e2, h2, b⟩ := l02Good_ev h1
    obtain ⟨b1, b2, _⟩ := ratioB_true b
    exact ⟨_, _, _, _, ev_bind0 e1 (ev_neg g (e2.bind (Ev.now _))), h2, by dsimp only; omega, by dsimp only; omega⟩

theorem l01DrawValue_some {c : List Int} {a s : Int} (h : Src c a s) : ∃ x a' s', spec_l01DrawValue.f c a s = some (x, a', s') ∧ Src c a' s' := by
  obtain ⟨x0, a0, s0, e0, h0, _⟩ := l01Next_some h (n := 10) (by omega)
  unfold spec_l01DrawValue.f
  rw [e0, Option.bind_some]
  by_cases g : x0 = 0
  · obtain ⟨x1, a1, s1, e1, h1, _⟩ := l01Pick_some h0 (l := [0, 1000000000000, 1000000000001, (-1000000000000), (-1000000000001), 1]) (by simp) (by simp)
    rw [if_pos g, e1]
    exact ⟨_, _, _, rfl, h1⟩
  · obtain ⟨x1, a1, s1, e1, h1, _⟩ := l01Next_some h0 (n := 41) (by omega)
    obtain ⟨x2, a2, s2, e2, h2, _⟩ := l01Next_some h1 (n := 2001) (by omega)
    obtain ⟨x3, a3, s3, e3, h3, _⟩ := l01Next_some h2 (n := 2000000001) (by omega)
    obtain ⟨x4, a4, s4, e4, h4, _⟩ := l01Pick_some h3 (l := [wrap64 (x1 - 20), wrap64 (x2 - 1000), wrap64 (x3 - 1000000000)]) (by simp) (by simp)
    rw [if_neg g]
    simp only [e1, e2, e3, e4, Option.bind_some]
    exact ⟨_, _, _, rfl, h4⟩
theorem addM_comm (an ad bn bd : Int) : addM bn bd an ad = addM an ad bn bd := by
  unfold addM
  simp only [And.comm, Int.add_comm, Int.mul_comm]
theorem mulM_comm (an ad bn bd : Int) : mulM bn bd an ad = mulM an ad bn bd := by
  unfold mulM
  simp only [And.comm, Int.mul_comm]
theorem cmpI_flip (a b : Int) : cmpI b a = -(cmpI a b) := by
  unfold cmpI
  repeat' split
  all_goals omega
theorem compareM_flip (an ad bn bd : Int) : compareM bn bd an ad = (-(compareM an ad bn bd).1, (compareM an ad bn bd).2) := by
  unfold compareM
  by_cases h : RatioB an ad = true ∧ RatioB bn bd = true
  · rw [if_pos h, if_pos h.symm, cmpI_flip]
  · rw [if_neg h, if_neg (fun g => h g.symm)]; rfl
theorem gc_dvd (a b : Int) : gc a b ∣ a ∧ gc a b ∣ b := by
  unfold gc
  exact ⟨Int.ofNat_dvd_left.2 (Nat.gcd_dvd_left _ _), Int.ofNat_dvd_left.2 (Nat.gcd_dvd_right _ _)⟩
theorem mkP_yes {n d x y : Int} (h : mkP n d = (x, y, 0)) : ∃ g, x * g = n ∧ y * g = d ∧ RatioB x y = true := by
  unfold mkP at h
  split at h
  · rename_i hr
    obtain ⟨rfl, h2⟩ := Prod.mk.inj h
    obtain ⟨rfl, _⟩ := Prod.mk.inj h2
    exact ⟨gc n d, Int.tdiv_mul_cancel (gc_dvd n d).1, Int.tdiv_mul_cancel (gc_dvd n d).2, hr⟩
  · have := (Prod.mk.inj (Prod.mk.inj h).2).2; omega
theorem mkR_yes' {n d x y : Int} (h : mkR n d = (x, y, 0)) : ∃ g, x * g = n ∧ y * g = d ∧ RatioB x y = true := by
  unfold mkR at h
  split at h
  · obtain ⟨g, h1, h2, h3⟩ := mkP_yes h
    exact ⟨-g, by rw [Int.mul_neg]; omega, by rw [Int.mul_neg]; omega, h3⟩
  · exact mkP_yes h
theorem makeM_yes {n d x y : Int} (h : makeM n d = (x, y, 0)) : RatioB x y = true ∧ y ≠ 0 ∧ Int.tmod d y = 0 ∧ wrap64 (wrap64 (Int.tdiv d y) * x) = n := by
  unfold makeM at h
  split at h
  · rename_i hb
    split at h
    · have := (Prod.mk.inj (Prod.mk.inj h).2).2; omega
    · obtain ⟨g, h1, h2, h3⟩ := mkR_yes' h
      obtain ⟨_, hy, _⟩ := ratioB_true h3
      refine ⟨h3, by omega, ?_, ?_⟩
      · rw [← h2]; exact Int.mul_tmod_right ..
      · have : Int.tdiv d y = g := by rw [← h2]; exact Int.mul_tdiv_cancel_left _ (by omega)
        have hg : -1000000000000 ≤ g ∧ g ≤ 1000000000000 := by
          have := Int.natAbs_tdiv_le_natAbs d y
          rw [‹Int.tdiv d y = g›] at this
          omega
        rw [this, w64 (n := g) (by omega) (by omega), Int.mul_comm, h1, w64 (by omega) (by omega)]
  · have := (Prod.mk.inj (Prod.mk.inj h).2).2; omega
theorem DrawAdd_ev {c : List Int} (hc : Code c) : ∃ a b e d, Ev (fun k => spec_DrawAddRatios.f k c) (a, b, e, d) := by
  obtain ⟨s, e, h⟩ := l01From_ev hc
  obtain ⟨n, d, a', s', e1, h1, b1⟩ := l02Draw_ev h
  obtain ⟨m, f, a'', s'', e2, h2, b2⟩ := l02Draw_ev h1
  exact ⟨_, _, _, _, e.bind (e1.bind (e2.bind (Ev.now _)))⟩
theorem DrawMake_ev {c : List Int} (hc : Code c) : ∃ x y, Ev (fun k => spec_DrawMakeRatio.f k c) (x, y) := by
  obtain ⟨s, e, h⟩ := l01From_ev hc
  obtain ⟨n, a1, s1, e1, h1⟩ := l01DrawValue_some h
  obtain ⟨m, a2, s2, e2, h2⟩ := l01DrawValue_some h1
  obtain ⟨x3, a3, s3, e3, h3, _⟩ := l01Next_some h2 (n := 30) (by omega)
  obtain ⟨x4, a4, s4, e4, h4, _⟩ := l01Next_some h3 (n := 30) (by omega)
  obtain ⟨x5, a5, s5, e5, h5, _⟩ := l01Pick_some h4 (l := [m, wrap64 (1 + x3), 0, wrap64 (-1 - x4)]) (by simp) (by simp)
  exact ⟨_, _, e.bind (ev_bind0 e1 (ev_bind0 e2 (ev_bind0 e3 (ev_bind0 e4 (ev_bind0 e5 (Ev.now _))))))⟩

theorem ev_mono {α : Type} {f : Nat → Option α} {m r : α} (hm : ∀ k, LeO (f k) (f (k + 1))) (e : Ev f m) {k : Nat} (h : f k = some r) : r = m := by
  obtain ⟨K, hK⟩ := e
  have h1 : ∀ n, f (k + n) = some r := by
    intro n
    induction n with
    | zero => exact h
    | succ n ih => exact hm (k + n) r ih
  have h2 := hK (k + K) (by omega)
  rw [h1 K] at h2
  exact Option.some.inj h2
theorem pure (c : List Int) (hw : ∀ x ∈ c, (Lit.int .u8 x).wf = true) : ∃ k, laws_FnFractions.f k c = some true := by
  apply Ev.rounds
  unfold laws_FnFractions.f
  by_cases g : (c.length : Int) > 4096
  · exact ev_bind0 (big_true g) (ev_pos rfl (Ev.now _))
  refine ev_bind0 (big_false g) (ev_neg (by decide) ?_)
  have hc := code_of hw g
  obtain ⟨a, b, e, d, ex⟩ := DrawAdd_ev hc
  obtain ⟨x, y, ey⟩ := DrawMake_ev hc
  have a1 := impl_AddRatios_ev a b e d
  have a2 := spec_AddRatios_ev a b e d
  have a3 := impl_AddRatios_ev e d a b
  have m1 := impl_MultiplyRatios_ev a b e d
  have m2 := spec_MultiplyRatios_ev a b e d
  have m3 := impl_MultiplyRatios_ev e d a b
  have c1 := impl_CompareRatios_ev a b e d
  have c2 := spec_CompareRatios_ev a b e d
  have c3 := impl_CompareRatios_ev e d a b
  have k1 := impl_MakeRatio_ev x y
  have k2 := spec_MakeRatio_ev x y
  have i1 := impl_IsRatio_ev a b
  have i2 := spec_IsRatio_ev a b
  rw [addM_comm] at a3
  rw [mulM_comm] at m3
  rw [compareM_flip] at c3
  have hcb : -1 ≤ (compareM a b e d).1 ∧ (compareM a b e d).1 ≤ 1 := by
    unfold compareM cmpI
    split
    · split
      · dsimp only; omega
      · split <;> (dsimp only; omega)
    · dsimp only; omega
  generalize addM a b e d = sA at a1 a2 a3
  generalize mulM a b e d = sM at m1 m2 m3
  generalize compareM a b e d = sC at c1 c2 c3 hcb
  generalize hk : makeM x y = sK at k1 k2
  generalize RatioB a b = sI at i1 i2
  obtain ⟨s1, s2, s3⟩ := sA
  obtain ⟨p1, p2, p3⟩ := sM
  obtain ⟨q1, q2⟩ := sC
  obtain ⟨r1, r2, r3⟩ := sK
  refine ex.bind (a1.bind (a2.bind (m1.bind (m2.bind (c1.bind (c2.bind (ey.bind (k1.bind (k2.bind ?_)))))))))
  refine ev_pos rfl (ev_neg (by simp) (ev_pos rfl (ev_neg (by simp) (ev_pos rfl (ev_pos rfl (ev_pos rfl (ev_neg (by simp) (i1.bind (i2.bind ?_)))))))))
  refine Ev.step (fun k => laws_FnFractions.j0.eq_2 ..) (ev_neg (by simp) (a3.bind (m3.bind (c3.bind ?_))))
  dsimp only at hcb ⊢
  refine ev_pos rfl (ev_neg (by simp) (ev_pos rfl (ev_neg (by simp) (ev_pos rfl (ev_pos (by rw [w64 (by omega) (by omega)]) ?_)))))
  by_cases z : r3 = 0
  · subst z
    obtain ⟨h1, h2, h3, h4⟩ := makeM_yes hk
    have i3 := impl_IsRatio_ev r1 r2
    rw [h1] at i3
    refine ev_pos rfl (i3.bind (ev_pos rfl (ev_neg h2 (ev_pos h3 (ev_ret ?_)))))
    rw [h4]; simp
  · exact ev_neg z (Ev.now _)
theorem go (c : List Int) (hw : ∀ x ∈ c, (Lit.int .u8 x).wf = true) (A0 : Option Addr) (c0 : Nat) (w : World) (hr0 : Kd.C (Kd.int .u8) w A0 c.length c) (hc0 : c.length ≤ c0) :
    Calls Try.prog 3 #[.slice A0 c.length c0] w fun e w' => e = .returned (.bool true) ∧ Below w.heap.size w w' := by
  obtain ⟨k, h⟩ := pure c hw
  refine laws_FnFractions.calls k A0 c0 c true w hr0 hc0 ?_ ?_ ?_ ?_ h ⟨rfl⟩
  · refine ⟨?_⟩
    intro k a b c d r1 r2 r3 q1 q2 q3 h1 h2
    have e1 := ev_mono (fun k => impl_AddRatios.mono a b c d k) (impl_AddRatios_ev a b c d) h1
    have e2 := ev_mono (fun k => spec_AddRatios.mono a b c d k) (spec_AddRatios_ev a b c d) h2
    rw [← e2] at e1
    simpa using e1
  · refine ⟨?_⟩
    intro k a b c d r1 r2 r3 q1 q2 q3 h1 h2
    have e1 := ev_mono (fun k => impl_MultiplyRatios.mono a b c d k) (impl_MultiplyRatios_ev a b c d) h1
    have e2 := ev_mono (fun k => spec_MultiplyRatios.mono a b c d k) (spec_MultiplyRatios_ev a b c d) h2
    rw [← e2] at e1
    simpa using e1
  · refine ⟨?_⟩
    intro k a b c d r1 r2 q1 q2 h1 h2
    have e1 := ev_mono (fun k => impl_CompareRatios.mono a b c d k) (impl_CompareRatios_ev a b c d) h1
    have e2 := ev_mono (fun k => spec_CompareRatios.mono a b c d k) (spec_CompareRatios_ev a b c d) h2
    rw [← e2] at e1
    simpa using e1
  · refine ⟨?_⟩
    intro k a b r1 r2 r3 q1 q2 q3 h1 h2
    have e1 := ev_mono (fun k => impl_MakeRatio.mono a b k) (impl_MakeRatio_ev a b) h1
    have e2 := ev_mono (fun k => spec_MakeRatio.mono a b k) (spec_MakeRatio_ev a b) h2
    rw [← e2] at e1
    simpa using e1
theorem walk (W : World) (a0 : Option Addr) (len0 cap0 : Nat) (z0 : List Int) (w0 : (a0 = none ∧ len0 = 0 ∧ cap0 = 0 ∧ z0 = []) ∨ ∃ x, a0 = some x ∧ len0 ≤ cap0 ∧ cap0 ≤ maxLen ∧ z0.length = cap0 ∧ (∀ i, i < z0.length → W.cell? (x.add i) = some (.int .u8 (z0.getD i 0))) ∧ ∀ n ∈ z0, (Lit.int .u8 n).wf = true) (y0 : len0 * 1 ≤ 140737488351232) :
    Calls Try.prog 3 #[.slice a0 len0 cap0] W fun e w' => e = .returned (.bool true) ∧ Below W.heap.size W w' := by
  obtain ⟨l0, rfl, hr0, hm0, hw0, hc0⟩ := ReadsInt.ofRowC w0
  exact go l0 hw0 _ _ W (Kd.C_of_reads (d := (0 : Int)) (h1 := fun _ => rfl) hr0) hc0

end Go.Proofs.Ytifjnmlokjfcjaa.GoFnFractions
