/- What BetweenRatios finds lies between, and FloorRatio is the floor; no condition. -/
import Derived.Test.YtpkadlgnkcbcbaaMa
import Derived.Test.YtpkadlgnkcbcbaaQFnBetweenx
namespace Go.Proofs.Ytpkadlgnkcbcbaa.PureFnBetween
open Go.RowKit Go.Proofs.Ytpkadlgnkcbcbaa.QFnBetween Go.Proofs.YtpkadlgnkcbcbaaW.PrintWords Go.Proofs.YtpkadlgnkcbcbaaW.PrintLast Go.Proofs.Ytpkadlgnkcbcbaa.Ma
set_option linter.unusedVariables false
set_option linter.unusedSimpArgs false

/-! ### division, ranges -/
theorem in_eq (a b c : Int) : spec_l01In.f a b c = some (decide (b ≤ a ∧ a ≤ c)) := by
  unfold spec_l01In.f
  by_cases h : b ≤ a <;> simp [h]
theorem within_eq (a b c : Int) : impl_within.f a b c = some (decide (b ≤ a ∧ a ≤ c)) := by
  unfold impl_within.f
  by_cases h : b ≤ a <;> simp [h]
theorem tdiv_floor {a b : Int} (hb : 0 < b) : (Int.tmod a b < 0 → Int.tdiv a b - 1 = a / b) ∧ (¬ Int.tmod a b < 0 → Int.tdiv a b = a / b) := by
  have h1 := Int.tdiv_eq_ediv (a := a) (b := b)
  have h2 := Int.tmod_eq_emod (a := a) (b := b)
  have h3 := Int.emod_nonneg a (show b ≠ 0 by omega)
  have h4 := Int.emod_lt_of_pos a hb
  by_cases h : 0 ≤ a ∨ b ∣ a
  · rw [if_pos h] at h1 h2
    omega
  · rw [if_neg h] at h1 h2
    rw [Int.sign_eq_one_of_pos hb] at h1
    omega
theorem ediv_small {a b : Int} (hb : 0 < b) (h : -4611686018427387904 ≤ a) (h' : a ≤ 4611686018427387904) : -4611686018427387904 ≤ a / b ∧ a / b ≤ 4611686018427387904 := by
  have h1 : -4611686018427387904 * b ≤ a := by
    have := Int.mul_le_mul_of_nonneg_left (show 1 ≤ b by omega) (show (0 : Int) ≤ 4611686018427387904 by omega); omega
  have h2 : a < (4611686018427387904 + 1) * b := by
    have := Int.mul_le_mul_of_nonneg_left (show 1 ≤ b by omega) (show (0 : Int) ≤ 4611686018427387905 by omega); omega
  have h3 := (Int.le_ediv_iff_mul_le hb).2 h1
  have h4 := (Int.ediv_lt_iff_lt_mul hb).2 h2
  omega
theorem floorDiv_eq {a b : Int} (hb : 0 < b) (h : -4611686018427387904 ≤ a) (h' : a ≤ 4611686018427387904) : impl_floorDiv.f a b = some (a / b) := by
  have h1 := tdiv_floor (a := a) hb
  have h2 := ediv_small hb h h'
  unfold impl_floorDiv.f
  rw [if_neg (by omega)]
  by_cases c : Int.tmod a b < 0
  · have := h1.1 c
    rw [if_pos c, w64 (n := Int.tdiv a b) (by omega) (by omega), w64 (by omega) (by omega), this]
  · have := h1.2 c
    rw [if_neg c, w64 (by omega) (by omega), this]
theorem floor_eq {a b : Int} (hb : 0 < b) (h : -4611686018427387904 ≤ a) (h' : a ≤ 4611686018427387904) : spec_l01Floor.f a b = some (a / b) := by
  have h1 := tdiv_floor (a := a) hb
  have h2 := ediv_small hb h h'
  unfold spec_l01Floor.f
  rw [if_neg (by omega), if_neg (by omega)]
  by_cases c : Int.tmod a b < 0
  · have := h1.1 c
    rw [if_pos c, w64 (n := Int.tdiv a b) (by omega) (by omega), w64 (by omega) (by omega), this]
  · have := h1.2 c
    rw [if_neg c, w64 (by omega) (by omega), this]

/-! ### fractions -/
theorem mx_max (a b : Int) : mx a b = max a b := by unfold mx; omega
def gc (a b : Int) : Int := (a.natAbs.gcd b.natAbs : Nat)
theorem gcd_step {a b : Int} (ha : 0 ≤ a) (hb : 0 < b) : gc b (Int.tmod a b) = gc a b := by
  unfold gc
  rw [Int.tmod_eq_emod_of_nonneg ha, Nat.gcd_comm a.natAbs, Nat.gcd_rec b.natAbs a.natAbs, Nat.gcd_comm (a.natAbs % b.natAbs)]
  have e : (a % b).natAbs = a.natAbs % b.natAbs := by
    obtain ⟨m, rfl⟩ := Int.eq_ofNat_of_zero_le ha
    obtain ⟨n, rfl⟩ := Int.eq_ofNat_of_zero_le (show 0 ≤ b by omega)
    rw [← Int.natCast_emod]; simp only [Int.natAbs_natCast]
  rw [e]
theorem gcd_zero {a : Int} (ha : 0 ≤ a) : gc a 0 = a := by unfold gc; simp; omega
theorem spec_l01Gcd_l0 : ∀ (n : Nat) (a b : Int), b = n → 0 ≤ a → Ev (fun k => spec_l01Gcd.l0 k a b) (gc a b) := by
  intro n
  induction n using Nat.strongRecOn with
  | ind n ih =>
    intro a b hb ha
    by_cases h : b = 0
    · subst h
      exact Ev.step (fun k => spec_l01Gcd.l0.eq_2 ..) (ev_pos rfl (ev_ret (gcd_zero ha).symm))
    · have h1 := Int.emod_lt_of_pos a (show 0 < b by omega)
      have h2 := Int.emod_nonneg a h
      have h3 := Int.tmod_eq_emod_of_nonneg (b := b) ha
      have := ih (Int.tmod a b).toNat (by omega) b (Int.tmod a b) (by omega) (by omega)
      rw [gcd_step ha (by omega)] at this
      exact Ev.step (fun k => spec_l01Gcd.l0.eq_2 ..) (ev_neg h this)
theorem impl_divisor_l0 : ∀ (n : Nat) (a b : Int), b = n → 0 ≤ a → Ev (fun k => impl_divisor.l0 k a b) (gc a b) := by
  intro n
  induction n using Nat.strongRecOn with
  | ind n ih =>
    intro a b hb ha
    by_cases h : b = 0
    · subst h
      exact Ev.step (fun k => impl_divisor.l0.eq_2 ..) (ev_pos rfl (ev_ret (gcd_zero ha).symm))
    · have h1 := Int.emod_lt_of_pos a (show 0 < b by omega)
      have h2 := Int.emod_nonneg a h
      have h3 := Int.tmod_eq_emod_of_nonneg (b := b) ha
      have := ih (Int.tmod a b).toNat (by omega) b (Int.tmod a b) (by omega) (by omega)
      rw [gcd_step ha (by omega)] at this
      exact Ev.step (fun k => impl_divisor.l0.eq_2 ..) (ev_neg h this)
theorem gc_abs (a b : Int) : gc (max a (-a)) b = gc a b := by unfold gc; congr 2; omega
theorem gc_abs2 (a b : Int) : gc a (max b (-b)) = gc a b := by unfold gc; congr 2; omega
theorem l01Abs_eq {a : Int} (h : -4611686018427387904 ≤ a) (h' : a ≤ 4611686018427387904) : spec_l01Abs.f a = some (max a (-a)) := by
  unfold spec_l01Abs.f; rw [w64 (by omega) (by omega), mx_max]
theorem abs_eq {a : Int} (h : -4611686018427387904 ≤ a) (h' : a ≤ 4611686018427387904) : impl_abs.f a = some (max a (-a)) := by
  unfold impl_abs.f
  by_cases g : a < 0
  · rw [if_pos g, w64 (by omega) (by omega)]; congr 1; omega
  · rw [if_neg g]; congr 1; omega
theorem l01Gcd_ev {a b : Int} (h : -4611686018427387904 ≤ a) (h' : a ≤ 4611686018427387904) (k : -4611686018427387904 ≤ b) (k' : b ≤ 4611686018427387904) : Ev (fun k => spec_l01Gcd.f k a b) (gc a b) := by
  have e := spec_l01Gcd_l0 (max b (-b)).toNat (max a (-a)) (max b (-b)) (by omega) (by omega)
  rw [gc_abs, gc_abs2] at e
  exact ev_bind0 (l01Abs_eq h h') (ev_bind0 (l01Abs_eq k k') e)
theorem divisor_ev {a b : Int} (ha : 0 ≤ a) (hb : 0 ≤ b) : Ev (fun k => impl_divisor.f k a b) (gc a b) := impl_divisor_l0 b.toNat a b (by omega) ha
/-- is it a fraction? -/
def RatioB (n d : Int) : Bool := decide (-1000000000 ≤ n ∧ n ≤ 1000000000) && decide (1 ≤ d ∧ d ≤ 1000000000) && (gc n d == 1)
theorem ratioB_true {n d : Int} (h : RatioB n d = true) : (-1000000000 ≤ n ∧ n ≤ 1000000000) ∧ (1 ≤ d ∧ d ≤ 1000000000) ∧ gc n d = 1 := by
  unfold RatioB at h
  simp only [Bool.and_eq_true, decide_eq_true_eq, beq_iff_eq] at h
  exact ⟨h.1.1, h.1.2, h.2⟩
theorem spec_IsRatio_ev (n d : Int) : Ev (fun k => spec_IsRatio.f k n d) (RatioB n d) := by
  unfold spec_IsRatio.f RatioB
  simp only [in_eq, Option.bind_some]
  by_cases a : -1000000000 ≤ n ∧ n ≤ 1000000000
  · refine ev_pos (by simpa using a) ?_
    by_cases b : 1 ≤ d ∧ d ≤ 1000000000
    · refine ev_pos (by simpa using b) ?_
      refine (l01Gcd_ev (by omega) (by omega) (by omega) (by omega)).bind (ev_ret ?_)
      simp [a, b]
    · exact ev_neg (by simpa using b) (ev_ret (by simp [b]))
  · exact ev_neg (by simpa using a) (ev_ret (by simp [a]))
theorem impl_IsRatio_ev (n d : Int) : Ev (fun k => impl_IsRatio.f k n d) (RatioB n d) := by
  unfold impl_IsRatio.f RatioB
  simp only [within_eq, Option.bind_some]
  by_cases a : -1000000000 ≤ n ∧ n ≤ 1000000000
  · refine ev_pos (by simpa using a) ?_
    by_cases b : 1 ≤ d ∧ d ≤ 1000000000
    · refine ev_pos (by simpa using b) ?_
      have e := divisor_ev (a := max n (-n)) (b := d) (by omega) (by omega)
      rw [gc_abs] at e
      refine ev_bind0 (abs_eq (by omega) (by omega)) (e.bind (ev_ret ?_))
      simp [a, b]
    · exact ev_neg (by simpa using b) (ev_ret (by simp [b]))
  · exact ev_neg (by simpa using a) (ev_ret (by simp [a]))

theorem tdiv_small {a b : Int} (h : -4611686018427387904 ≤ a) (h' : a ≤ 4611686018427387904) : -4611686018427387904 ≤ Int.tdiv a b ∧ Int.tdiv a b ≤ 4611686018427387904 := by
  have := Int.natAbs_tdiv_le_natAbs a b
  omega
theorem gc_pos {a b : Int} (hb : b ≠ 0) : 0 < gc a b := by
  unfold gc
  have := Nat.gcd_pos_of_pos_right a.natAbs (show 0 < b.natAbs by omega)
  omega
/-- a quotient, brought to its lowest terms; the denominator is greater than 0 -/
def mkP (n d : Int) : Int × Int × Int := if RatioB (Int.tdiv n (gc n d)) (Int.tdiv d (gc n d)) = true then (Int.tdiv n (gc n d), Int.tdiv d (gc n d), 0) else (0, 0, 3)
def mkR (n d : Int) : Int × Int × Int := if d < 0 then mkP (-n) (-d) else mkP n d
theorem spec_l02Make_j0 {n d : Int} (h : -4611686018427387904 ≤ n) (h' : n ≤ 4611686018427387904) (k : 0 < d) (k' : d ≤ 4611686018427387904) : Ev (fun k => spec_l02Make.j0 k n d) (mkP n d) := by
  have g := gc_pos (a := n) (b := d) (by omega)
  have t1 := tdiv_small (b := gc n d) h h'
  have t2 := tdiv_small (a := d) (b := gc n d) (by omega) k'
  refine Ev.step (fun k => spec_l02Make.j0.eq_2 ..) ((l01Gcd_ev h h' (by omega) k').bind (ev_neg (by omega) ?_))
  rw [w64 (n := Int.tdiv n (gc n d)) (by omega) (by omega), w64 (n := Int.tdiv d (gc n d)) (by omega) (by omega)]
  refine (spec_IsRatio_ev _ _).bind ?_
  unfold mkP
  by_cases c : RatioB (Int.tdiv n (gc n d)) (Int.tdiv d (gc n d)) = true
  · exact ev_pos c (ev_ret (by rw [if_pos c]))
  · exact ev_neg c (ev_ret (by rw [if_neg c]))
theorem spec_l02Make_ev {n d : Int} (h : -4611686018427387904 ≤ n) (h' : n ≤ 4611686018427387904) (k : -4611686018427387904 ≤ d) (k' : d ≤ 4611686018427387904) (hd : d ≠ 0) : Ev (fun k => spec_l02Make.f k n d) (mkR n d) := by
  unfold spec_l02Make.f mkR
  by_cases c : d < 0
  · refine ev_pos c ?_
    rw [w64 (by omega) (by omega), w64 (by omega) (by omega), if_pos c]
    exact spec_l02Make_j0 (by omega) (by omega) (by omega) (by omega)
  · refine ev_neg c ?_
    rw [if_neg c]
    exact spec_l02Make_j0 h h' (by omega) k'
theorem impl_reduced_j0 {n d : Int} (h : -4611686018427387904 ≤ n) (h' : n ≤ 4611686018427387904) (k : 0 < d) (k' : d ≤ 4611686018427387904) : Ev (fun k => impl_reduced.j0 k n d) (mkP n d) := by
  have g := gc_pos (a := n) (b := d) (by omega)
  have t1 := tdiv_small (b := gc n d) h h'
  have t2 := tdiv_small (a := d) (b := gc n d) (by omega) k'
  have e := divisor_ev (a := max n (-n)) (b := d) (by omega) (by omega)
  rw [gc_abs] at e
  refine Ev.step (fun k => impl_reduced.j0.eq_2 ..) (ev_bind0 (abs_eq h h') (e.bind (ev_neg (by omega) ?_)))
  rw [w64 (n := Int.tdiv n (gc n d)) (by omega) (by omega), w64 (n := Int.tdiv d (gc n d)) (by omega) (by omega)]
  refine (impl_IsRatio_ev _ _).bind ?_
  unfold mkP
  by_cases c : RatioB (Int.tdiv n (gc n d)) (Int.tdiv d (gc n d)) = true
  · exact ev_pos c (ev_ret (by rw [if_pos c]))
  · exact ev_neg c (ev_ret (by rw [if_neg c]))
theorem impl_reduced_ev {n d : Int} (h : -4611686018427387904 ≤ n) (h' : n ≤ 4611686018427387904) (k : -4611686018427387904 ≤ d) (k' : d ≤ 4611686018427387904) (hd : d ≠ 0) : Ev (fun k => impl_reduced.f k n d) (mkR n d) := by
  unfold impl_reduced.f mkR
  by_cases c : d < 0
  · refine ev_pos c ?_
    rw [w64 (by omega) (by omega), w64 (by omega) (by omega), if_pos c]
    exact impl_reduced_j0 (by omega) (by omega) (by omega) (by omega)
  · refine ev_neg c ?_
    rw [if_neg c]
    exact impl_reduced_j0 h h' (by omega) k'

theorem prod_bound {x y A B : Int} (h : -A ≤ x) (h' : x ≤ A) (k : -B ≤ y) (k' : y ≤ B) (hA : 0 ≤ A) (hB : 0 ≤ B) : -(A * B) ≤ x * y ∧ x * y ≤ A * B := by
  have e1 := Int.mul_nonneg (show 0 ≤ A - x by omega) (show 0 ≤ B - y by omega)
  have e2 := Int.mul_nonneg (show 0 ≤ A + x by omega) (show 0 ≤ B + y by omega)
  have e3 := Int.mul_nonneg (show 0 ≤ A - x by omega) (show 0 ≤ B + y by omega)
  have e4 := Int.mul_nonneg (show 0 ≤ A + x by omega) (show 0 ≤ B - y by omega)
  rw [Int.sub_mul, Int.mul_sub, Int.mul_sub] at e1
  rw [Int.add_mul, Int.mul_add, Int.mul_add] at e2
  rw [Int.sub_mul, Int.mul_add, Int.mul_add] at e3
  rw [Int.add_mul, Int.mul_sub, Int.mul_sub] at e4
  omega
/-- -1, 0 or 1 -/
def cmpI (a b : Int) : Int := if a < b then -1 else if b < a then 1 else 0
def compareM (an ad bn bd : Int) : Int × Int := if RatioB an ad = true ∧ RatioB bn bd = true then (cmpI (an * bd) (bn * ad), 0) else (0, 1)
theorem cross_bound {an ad bn bd : Int} (h : RatioB an ad = true) (h' : RatioB bn bd = true) : (-1000000000000000000 ≤ an * bd ∧ an * bd ≤ 1000000000000000000) ∧ (-1000000000000000000 ≤ bn * ad ∧ bn * ad ≤ 1000000000000000000) ∧ (1 ≤ ad * bd ∧ ad * bd ≤ 1000000000000000000) := by
  obtain ⟨a, b, _⟩ := ratioB_true h
  obtain ⟨c, d, _⟩ := ratioB_true h'
  have e1 := prod_bound (x := an) (y := bd) (A := 1000000000) (B := 1000000000) (by omega) (by omega) (by omega) (by omega) (by omega) (by omega)
  have e2 := prod_bound (x := bn) (y := ad) (A := 1000000000) (B := 1000000000) (by omega) (by omega) (by omega) (by omega) (by omega) (by omega)
  have e3 := prod_bound (x := ad) (y := bd) (A := 1000000000) (B := 1000000000) (by omega) (by omega) (by omega) (by omega) (by omega) (by omega)
  have e4 := Int.mul_pos (show 0 < ad by omega) (show 0 < bd by omega)
  omega
theorem impl_CompareRatios_ev (an ad bn bd : Int) : Ev (fun k => impl_CompareRatios.f k an ad bn bd) (compareM an ad bn bd) := by
  unfold impl_CompareRatios.f compareM
  refine (impl_IsRatio_ev an ad).bind ?_
  by_cases h : RatioB an ad = true
  · refine ev_pos h ((impl_IsRatio_ev bn bd).bind ?_)
    by_cases h' : RatioB bn bd = true
    · refine ev_pos h' ?_
      obtain ⟨a, b, c⟩ := cross_bound h h'
      rw [w64 (by omega) (by omega), w64 (by omega) (by omega), if_pos ⟨h, h'⟩]
      refine ev_bind0 (b := cmpI (an * bd) (bn * ad)) ?_ (Ev.now _)
      unfold impl_compare.f cmpI
      by_cases u : an * bd < bn * ad
      · rw [if_pos u, if_pos u]
      · rw [if_neg u, if_neg u]
        by_cases v : bn * ad < an * bd
        · rw [if_pos v, if_pos v]
        · rw [if_neg v, if_neg v]
    · exact ev_neg h' (ev_ret (by rw [if_neg (by simp [h'])]))
  · exact ev_neg h (ev_ret (by rw [if_neg (by simp [h])]))
/-! ### a fraction between two -/
def betL (an ad bn bd : Int) : Nat → Int → Int × Int × Int
  | 0, _ => (0, 0, 4)
  | n + 1, d => if an * d / ad + 1 ≤ (bn * d - 1) / bd then mkR (an * d / ad + 1) d else betL an ad bn bd n (d + 1)
def betM (an ad bn bd : Int) : Int × Int × Int := if RatioB an ad = true ∧ RatioB bn bd = true then (if an * bd ≥ bn * ad then (0, 0, 5) else betL an ad bn bd 1000 1) else (0, 0, 1)
theorem low_bound {an ad d : Int} (h : RatioB an ad = true) (h1 : 1 ≤ d) (h2 : d ≤ 1000) : (-1000000000000 ≤ an * d ∧ an * d ≤ 1000000000000) ∧ (-1000000000000 ≤ an * d / ad ∧ an * d / ad ≤ 1000000000000) ∧ (-1000000000001 ≤ (an * d - 1) / ad ∧ (an * d - 1) / ad ≤ 1000000000000) := by
  obtain ⟨a, b, _⟩ := ratioB_true h
  have e := prod_bound (x := an) (y := d) (A := 1000000000) (B := 1000) (by omega) (by omega) (by omega) (by omega) (by omega) (by omega)
  have e' : -1000000000000 ≤ an * d ∧ an * d ≤ 1000000000000 := by omega
  generalize an * d = x at *
  refine ⟨e', ?_, ?_⟩
  · constructor
    · apply (Int.le_ediv_iff_mul_le (by omega)).2
      have := Int.mul_le_mul_of_nonneg_left (show 1 ≤ ad by omega) (show (0 : Int) ≤ 1000000000000 by omega); omega
    · have := (Int.ediv_lt_iff_lt_mul (show 0 < ad by omega) (a := x) (b := 1000000000001)).2 (by
        have := Int.mul_le_mul_of_nonneg_left (show 1 ≤ ad by omega) (show (0 : Int) ≤ 1000000000001 by omega); omega)
      omega
  · constructor
    · apply (Int.le_ediv_iff_mul_le (by omega)).2
      have := Int.mul_le_mul_of_nonneg_left (show 1 ≤ ad by omega) (show (0 : Int) ≤ 1000000000001 by omega); omega
    · have := (Int.ediv_lt_iff_lt_mul (show 0 < ad by omega) (a := x - 1) (b := 1000000000001)).2 (by
        have := Int.mul_le_mul_of_nonneg_left (show 1 ≤ ad by omega) (show (0 : Int) ≤ 1000000000001 by omega); omega)
      omega
theorem impl_BetweenRatios_l0 {an ad bn bd : Int} (h : RatioB an ad = true) (h' : RatioB bn bd = true) : ∀ (n : Nat) (d : Int), d + n = 1001 → 1 ≤ d → Ev (fun k => impl_BetweenRatios.l0 k d an ad bn bd) (betL an ad bn bd n d) := by
  intro n
  induction n with
  | zero =>
    intro d hd h1
    exact Ev.step (fun k => impl_BetweenRatios.l0.eq_2 ..) (ev_neg (by omega) (Ev.now _))
  | succ n ih =>
    intro d hd h1
    obtain ⟨a1, a2, _⟩ := low_bound (d := d) h (by omega) (by omega)
    obtain ⟨b1, _, b2⟩ := low_bound (d := d) h' (by omega) (by omega)
    obtain ⟨_, p, _⟩ := ratioB_true h
    obtain ⟨_, q, _⟩ := ratioB_true h'
    refine Ev.step (fun k => impl_BetweenRatios.l0.eq_2 ..) (ev_pos (by omega) ?_)
    rw [w64 (n := an * d) (by omega) (by omega), w64 (n := bn * d) (by omega) (by omega), w64 (n := bn * d - 1) (by omega) (by omega), w64 (n := d + 1) (by omega) (by omega)]
    refine ev_bind0 (floorDiv_eq (by omega) (by omega) (by omega)) (ev_bind0 (floorDiv_eq (by omega) (by omega) (by omega)) ?_)
    rw [w64 (n := an * d / ad + 1) (by omega) (by omega)]
    unfold betL
    by_cases c : an * d / ad + 1 ≤ (bn * d - 1) / bd
    · rw [if_pos c]
      exact ev_pos c ((impl_reduced_ev (by omega) (by omega) (by omega) (by omega) (by omega)).bind (Ev.now _))
    · rw [if_neg c]
      exact ev_neg c (ih (d + 1) (by omega) (by omega))
theorem spec_BetweenRatios_l0 {an ad bn bd : Int} (h : RatioB an ad = true) (h' : RatioB bn bd = true) : ∀ (n : Nat) (d : Int), d + n = 1001 → 1 ≤ d → Ev (fun k => spec_BetweenRatios.l0 k d an ad bn bd) (betL an ad bn bd n d) := by
  intro n
  induction n with
  | zero =>
    intro d hd h1
    exact Ev.step (fun k => spec_BetweenRatios.l0.eq_2 ..) (ev_neg (by omega) (Ev.now _))
  | succ n ih =>
    intro d hd h1
    obtain ⟨a1, a2, _⟩ := low_bound (d := d) h (by omega) (by omega)
    obtain ⟨b1, _, b2⟩ := low_bound (d := d) h' (by omega) (by omega)
    obtain ⟨_, p, _⟩ := ratioB_true h
    obtain ⟨_, q, _⟩ := ratioB_true h'
    have hc : -(-(bn * d) / bd) = (bn * d - 1) / bd + 1 := by
      have e1 := Int.ediv_mul_add_emod (bn * d - 1) bd
      have e2 := Int.emod_nonneg (bn * d - 1) (show bd ≠ 0 by omega)
      have e3 := Int.emod_lt_of_pos (bn * d - 1) (show 0 < bd by omega)
      have e4 := Int.ediv_mul_add_emod (-(bn * d)) bd
      have e5 := Int.emod_nonneg (-(bn * d)) (show bd ≠ 0 by omega)
      have e6 := Int.emod_lt_of_pos (-(bn * d)) (show 0 < bd by omega)
      generalize (bn * d - 1) % bd = r1 at *
      generalize (-(bn * d)) % bd = r2 at *
      generalize (bn * d - 1) / bd = q1 at *
      generalize (-(bn * d)) / bd = q2 at *
      generalize bn * d = x at *
      -- q1*bd + r1 = x - 1, q2*bd + r2 = -x
      have h1 : (q1 + q2) * bd = - 1 - r1 - r2 := by rw [Int.add_mul]; omega
      have h2 : q1 + q2 < 0 := by
        rcases Int.lt_or_le (q1 + q2) 0 with h | h
        · exact h
        · have := Int.mul_nonneg h (show 0 ≤ bd by omega); omega
      have h3 : -2 < q1 + q2 := by
        rcases Int.lt_or_le (-2) (q1 + q2) with h | h
        · exact h
        · have := Int.mul_le_mul_of_nonneg_right h (show 0 ≤ bd by omega); omega
      omega
    refine Ev.step (fun k => spec_BetweenRatios.l0.eq_2 ..) (ev_pos (by omega) ?_)
    rw [Int.mul_comm d an, Int.mul_comm d bn, w64 (n := an * d) (by omega) (by omega), w64 (n := bn * d) (by omega) (by omega), w64 (n := d + 1) (by omega) (by omega)]
    refine ev_bind0 (floor_eq (by omega) (by omega) (by omega)) (ev_bind0 (b := (bn * d - 1) / bd + 1) ?_ ?_)
    · unfold spec_l01Ceil.f
      rw [w64 (n := -(bn * d)) (by omega) (by omega), floor_eq (by omega) (by omega) (by omega), Option.bind_some, w64 (by omega) (by omega), hc]
    rw [w64 (n := an * d / ad + 1) (by omega) (by omega)]
    unfold betL
    by_cases c : an * d / ad + 1 ≤ (bn * d - 1) / bd
    · rw [if_pos c]
      exact ev_pos (by omega) ((spec_l02Make_ev (by omega) (by omega) (by omega) (by omega) (by omega)).bind (Ev.now _))
    · rw [if_neg c]
      exact ev_neg (by omega) (ih (d + 1) (by omega) (by omega))
theorem impl_BetweenRatios_ev (an ad bn bd : Int) : Ev (fun k => impl_BetweenRatios.f k an ad bn bd) (betM an ad bn bd) := by
  unfold impl_BetweenRatios.f betM
  refine (impl_IsRatio_ev an ad).bind ?_
  by_cases h : RatioB an ad = true
  · refine ev_pos h ((impl_IsRatio_ev bn bd).bind (Ev.step (fun k => impl_BetweenRatios.j0.eq_2 ..) ?_))
    by_cases h' : RatioB bn bd = true
    · refine ev_neg (by simp [h']) ?_
      obtain ⟨a, b, c⟩ := cross_bound h h'
      rw [w64 (n := an * bd) (by omega) (by omega), w64 (n := bn * ad) (by omega) (by omega), if_pos ⟨h, h'⟩]
      by_cases g : an * bd ≥ bn * ad
      · exact ev_pos g (ev_ret (by rw [if_pos g]))
      · refine ev_neg g ?_
        have e : (if an * bd ≥ bn * ad then ((0 : Int), (0 : Int), (5 : Int)) else betL an ad bn bd 1000 1) = betL an ad bn bd 1000 1 := if_neg g
        rw [e]
        exact impl_BetweenRatios_l0 h h' 1000 1 (by omega) (by omega)
    · exact ev_pos (by simp [h']) (ev_ret (by rw [if_neg (by simp [h'])]))
  · exact ev_neg h (Ev.step (fun k => impl_BetweenRatios.j0.eq_2 ..) (ev_pos rfl (ev_ret (by rw [if_neg (by simp [h])]))))
theorem spec_BetweenRatios_ev (an ad bn bd : Int) : Ev (fun k => spec_BetweenRatios.f k an ad bn bd) (betM an ad bn bd) := by
  unfold spec_BetweenRatios.f betM
  refine (spec_IsRatio_ev an ad).bind ?_
  by_cases h : RatioB an ad = true
  · refine ev_pos h ((spec_IsRatio_ev bn bd).bind (Ev.step (fun k => spec_BetweenRatios.j0.eq_2 ..) ?_))
    by_cases h' : RatioB bn bd = true
    · refine ev_neg (by simp [h']) ?_
      obtain ⟨a, b, c⟩ := cross_bound h h'
      rw [if_pos ⟨h, h'⟩]
      by_cases g : an * bd ≥ bn * ad
      · have e : ∃ t, spec_l02Compare.f an ad bn bd = some t ∧ t ≥ 0 := by
          unfold spec_l02Compare.f
          rw [w64 (n := an * bd) (by omega) (by omega), w64 (n := bn * ad) (by omega) (by omega), w64 (by omega) (by omega), if_neg (by omega)]
          split
          · exact ⟨_, rfl, by omega⟩
          · exact ⟨_, rfl, by omega⟩
        obtain ⟨t, et, ht⟩ := e
        exact ev_bind0 et (ev_pos ht (ev_ret (by rw [if_pos g])))
      · have e : spec_l02Compare.f an ad bn bd = some (-1) := by
          unfold spec_l02Compare.f
          rw [w64 (n := an * bd) (by omega) (by omega), w64 (n := bn * ad) (by omega) (by omega), w64 (by omega) (by omega), if_pos (by omega)]
        have e1 : (if an * bd ≥ bn * ad then ((0 : Int), (0 : Int), (5 : Int)) else betL an ad bn bd 1000 1) = betL an ad bn bd 1000 1 := if_neg g
        rw [e1]
        exact ev_bind0 e (ev_neg (by omega) (spec_BetweenRatios_l0 h h' 1000 1 (by omega) (by omega)))
    · exact ev_pos (by simp [h']) (ev_ret (by rw [if_neg (by simp [h'])]))
  · exact ev_neg h (Ev.step (fun k => spec_BetweenRatios.j0.eq_2 ..) (ev_pos rfl (ev_ret (by rw [if_neg (by simp [h])]))))

/-! ### numbers that follow from a code -/
def Code (c : List Int) : Prop := (∀ x ∈ c, 0 ≤ x ∧ x ≤ 255) ∧ c.length ≤ 5000
def Src (c : List Int) (a s : Int) : Prop := Code c ∧ (0 ≤ a ∧ a ≤ c.length) ∧ 0 ≤ s ∧ s < 2147483647
theorem rd_code {c : List Int} (h : Code c) {i : Int} (h0 : 0 ≤ i) (h1 : i < c.length) : 0 ≤ rd c i ∧ rd c i ≤ 255 := by
  unfold rd
  have hi : i.toNat < c.length := by omega
  rw [List.getD_eq_getElem?_getD, List.getElem?_eq_getElem hi]
  exact h.1 _ (List.getElem_mem hi)
theorem tmod_nn {a b : Int} (ha : 0 ≤ a) : Int.tmod a b = a % b := Int.tmod_eq_emod_of_nonneg ha
theorem tmod_in {a b : Int} (ha : 0 ≤ a) (hb : 0 < b) : 0 ≤ Int.tmod a b ∧ Int.tmod a b < b := by
  rw [tmod_nn ha]
  exact ⟨Int.emod_nonneg a (by omega), Int.emod_lt_of_pos a hb⟩
theorem l01Next_some {c : List Int} {a s n : Int} (h : Src c a s) (hn : n ≤ 4611686018427387904) : ∃ x a' s', spec_l01Next.f c a s n = some (x, a', s') ∧ Src c a' s' ∧ 0 ≤ x ∧ (1 ≤ n → x < n) ∧ (n ≤ 1 → x = 0) := by
  obtain ⟨hc, ⟨a0, a1⟩, s0, s1⟩ := h
  have hl := hc.2
  unfold spec_l01Next.f
  by_cases g : n ≤ 1
  · rw [if_pos g]
    exact ⟨0, a, s, rfl, ⟨hc, ⟨a0, a1⟩, s0, s1⟩, by omega, by omega, by omega⟩
  · rw [if_neg g]
    have e1 : wrap64 ((wrap64 (s * 48271)) + 29) = s * 48271 + 29 := by
      rw [w64 (n := s * 48271) (by omega) (by omega), w64 (by omega) (by omega)]
    have e2 := tmod_in (a := s * 48271 + 29) (b := 2147483647) (by omega) (by omega)
    rw [e1]
    generalize Int.tmod (s * 48271 + 29) 2147483647 = s' at *
    have e3 : wrap64 (Int.tdiv s' 31) = s' / 31 := by rw [Int.tdiv_eq_ediv_of_nonneg (by omega), w64 (by omega) (by omega)]
    rw [e3]
    by_cases g1 : a < (c.length : Int)
    · have hr := rd_code hc a0 g1
      rw [if_pos g1, if_pos a0, w64 (n := a + 1) (by omega) (by omega), w64 (n := a + 1 - 1) (by omega) (by omega), show a + 1 - 1 = a by omega, w64 (n := rd c a) (by omega) (by omega), w64 (n := s' / 31 + rd c a) (by omega) (by omega)]
      have t1 := tmod_in (a := rd c a) (b := n) (by omega) (by omega)
      have t2 := tmod_in (a := s' / 31 + rd c a) (b := n) (by omega) (by omega)
      have fin : Src c (a + 1) s' := ⟨hc, ⟨by omega, by omega⟩, e2⟩
      by_cases g2 : n ≤ 256
      · rw [if_pos g2]
        by_cases g3 : Int.tmod (a + 1) 2 = 0
        · rw [if_pos g3, if_pos a0, if_pos g1, if_neg (by omega)]
          exact ⟨_, _, _, rfl, fin, t1.1, fun _ => t1.2, by omega⟩
        · rw [if_neg g3, if_neg (by omega)]
          exact ⟨_, _, _, rfl, fin, t2.1, fun _ => t2.2, by omega⟩
      · rw [if_neg g2, if_neg (by omega)]
        exact ⟨_, _, _, rfl, fin, t2.1, fun _ => t2.2, by omega⟩
    · have t2 := tmod_in (a := s' / 31) (b := n) (by omega) (by omega)
      rw [if_neg g1, if_neg (by omega)]
      exact ⟨_, _, _, rfl, ⟨hc, ⟨a0, a1⟩, e2⟩, t2.1, fun _ => t2.2, by omega⟩
theorem l01Pick_some {c : List Int} {a s : Int} (h : Src c a s) {l : List Int} (hl : 1 ≤ l.length) (hl' : l.length ≤ 1000) : ∃ x a' s', spec_l01Pick.f c a s l = some (x, a', s') ∧ Src c a' s' ∧ x ∈ l := by
  obtain ⟨x, a', s', e, h', x0, x1, _⟩ := l01Next_some h (n := (l.length : Int)) (by omega)
  have x2 := x1 (by omega)
  unfold spec_l01Pick.f
  rw [e, Option.bind_some, if_pos x0, if_pos x2]
  refine ⟨_, _, _, rfl, h', ?_⟩
  unfold rd
  have hi : x.toNat < l.length := by omega
  rw [List.getD_eq_getElem?_getD, List.getElem?_eq_getElem hi]
  exact List.getElem_mem hi
theorem l01From_l0 {c : List Int} (hc : Code c) : ∀ (d : Nat) (i : Int) (s : Int), 64 - i = d → 0 ≤ i → 0 ≤ s → s < 2147483647 → ∃ s', Ev (fun k => spec_l01From.l0 k c i c 0 s) (c, 0, s') ∧ Src c 0 s' := by
  intro d
  have hl := hc.2
  induction d with
  | zero =>
    intro i s hd h0 s0 s1
    refine ⟨s, Ev.step (fun k => spec_l01From.l0.eq_2 ..) ?_, hc, ⟨by omega, by omega⟩, s0, s1⟩
    by_cases g : i < (c.length : Int)
    · exact ev_pos g (ev_neg (by omega) (Ev.now _))
    · exact ev_neg g (Ev.now _)
  | succ d ih =>
    intro i s hd h0 s0 s1
    by_cases g : i < (c.length : Int)
    · have hr := rd_code hc h0 g
      have e1 : wrap64 ((wrap64 (s * 83)) + (wrap64 (rd c i))) = s * 83 + rd c i := by
        rw [w64 (n := s * 83) (by omega) (by omega), w64 (n := rd c i) (by omega) (by omega), w64 (by omega) (by omega)]
      have e2 := tmod_in (a := s * 83 + rd c i) (b := 2147483647) (by omega) (by omega)
      obtain ⟨s', hs, h⟩ := ih (i + 1) (Int.tmod (s * 83 + rd c i) 2147483647) (by omega) (by omega) e2.1 e2.2
      refine ⟨s', Ev.step (fun k => spec_l01From.l0.eq_2 ..) (ev_pos g (ev_pos (by omega) (ev_pos h0 ?_))), h⟩
      rw [e1, w64 (by omega) (by omega)]
      exact hs
    · exact ⟨s, Ev.step (fun k => spec_l01From.l0.eq_2 ..) (ev_neg g (Ev.now _)), hc, ⟨by omega, by omega⟩, s0, s1⟩
theorem l01From_ev {c : List Int} (hc : Code c) : ∃ s, Ev (fun k => spec_l01From.f k c) (c, 0, s) ∧ Src c 0 s :=
  l01From_l0 hc 64 0 61043 (by omega) (by omega) (by omega) (by omega)
/-! ### dice -/
def Dice (c : List Int) (i h : Int) : Prop := Code c ∧ (0 ≤ i ∧ i ≤ c.length) ∧ 0 ≤ h ∧ h ≤ 18446744073709551615
theorem u64w (n : Int) : 0 ≤ IntKind.u64.wrap n ∧ IntKind.u64.wrap n ≤ 18446744073709551615 := by
  have e : IntKind.u64.wrap n = n % 18446744073709551616 := by rfl
  omega
theorem big_false {c : List Int} (h : ¬ (c.length : Int) > 4096) : laws_big.f c = some false := by unfold laws_big.f; simp; omega
theorem big_true {c : List Int} (h : (c.length : Int) > 4096) : laws_big.f c = some true := by unfold laws_big.f; simp; omega
theorem code_of {c : List Int} (h : ∀ x ∈ c, (Lit.int .u8 x).wf = true) (hl : ¬ (c.length : Int) > 4096) : Code c := ⟨fun x hx => bd8 (h x hx), by omega⟩

theorem mkR_or (n d : Int) : RatioB (mkR n d).1 (mkR n d).2.1 = true ∨ mkR n d = (0, 0, 3) := by
  unfold mkR mkP
  split <;> split <;> first | (left; assumption) | (right; rfl)
theorem ratio11 : RatioB 1 1 = true := by decide
theorem ratioB_ne {n d : Int} (h : RatioB n d = true) : d ≠ 0 := by obtain ⟨_, h, _⟩ := ratioB_true h; omega
theorem l02Good_ev {c : List Int} {a s : Int} (h : Src c a s) : ∃ n d a' s', Ev (fun k => spec_l02Good.f k c a s) (n, d, a', s') ∧ Src c a' s' ∧ RatioB n d = true := by
  obtain ⟨x1, a1, s1, e1, h1, b1, c1, _⟩ := l01Next_some h (n := 81) (by omega)
  have c1 := c1 (by omega)
  obtain ⟨x2, a2, s2, e2, h2, b2, c2, _⟩ := l01Next_some h1 (n := 30) (by omega)
  have c2 := c2 (by omega)
  have m := spec_l02Make_ev (n := x1 - 40) (d := 1 + x2) (by omega) (by omega) (by omega) (by omega) (by omega)
  have mo := mkR_or (x1 - 40) (1 + x2)
  rw [← w64 (n := x1 - 40) (by omega) (by omega), ← w64 (n := 1 + x2) (by omega) (by omega)] at m mo
  obtain ⟨x3, a3, s3, e3, h3, _⟩ := l01Next_some h2 (n := 12) (by omega)
  by_cases g : x3 = 0
  · obtain ⟨x4, a4, s4, e4, h4, b4, c4, _⟩ := l01Next_some h3 (n := 1000000000) (by omega)
    have c4 := c4 (by omega)
    obtain ⟨x5, a5, s5, e5, h5, b5⟩ := l01Pick_some h4 (l := [1000000000, (-1000000000), x4]) (by simp) (by simp)
    obtain ⟨x6, a6, s6, e6, h6, b6⟩ := l01Pick_some h5 (l := [1, 999999999, 999999937]) (by simp) (by simp)
    simp only [List.mem_cons, List.not_mem_nil, or_false] at b5 b6
    have m2 := spec_l02Make_ev (n := x5) (d := x6) (by omega) (by omega) (by omega) (by omega) (by omega)
    by_cases g2 : (mkR x5 x6).2.1 = 0
    · exact ⟨_, _, _, _, ev_bind0 e1 (ev_bind0 e2 (m.bind (ev_bind0 e3 (ev_pos g (ev_bind0 e4 (ev_bind0 e5 (ev_bind0 e6 (m2.bind (ev_pos g2 (Ev.now _)))))))))), h6, ratio11⟩
    · refine ⟨_, _, _, _, ev_bind0 e1 (ev_bind0 e2 (m.bind (ev_bind0 e3 (ev_pos g (ev_bind0 e4 (ev_bind0 e5 (ev_bind0 e6 (m2.bind (ev_neg g2 (Ev.now _)))))))))), h6, ?_⟩
      rcases mkR_or x5 x6 with h | h
      · exact h
      · rw [h] at g2; exact absurd rfl g2
  · by_cases g2 : (mkR (wrap64 (x1 - 40)) (wrap64 (1 + x2))).2.1 = 0
    · exact ⟨_, _, _, _, ev_bind0 e1 (ev_bind0 e2 (m.bind (ev_bind0 e3 (ev_neg g (ev_pos g2 (Ev.now _)))))), h3, ratio11⟩
    · refine ⟨_, _, _, _, ev_bind0 e1 (ev_bind0 e2 (m.bind (ev_bind0 e3 (ev_neg g (ev_neg g2 (Ev.now _)))))), h3, ?_⟩
      rcases mo with h | h
      · exact h
      · rw [h] at g2; exact absurd rfl g2
theorem l02Draw_ev {c : List Int} {a s : Int} (h : Src c a s) : ∃ n d a' s', Ev (fun k => spec_l02Draw.f k c a s) (n, d, a', s') ∧ Src c a' s' ∧ (-1000000001 ≤ n ∧ n ≤ 1000000001) ∧ (-1000000001 ≤ d ∧ d ≤ 1000000001) := by
  obtain ⟨x1, a1, s1, e1, h1, b1, c1, _⟩ := l01Next_some h (n := 24) (by omega)
  by_cases g : x1 = 0
  · obtain ⟨x5, a5, s5, e5, h5, b5⟩ := l01Pick_some h1 (l := [2, 0, 1000000001, (-3)]) (by simp) (by simp)
    obtain ⟨x6, a6, s6, e6, h6, b6⟩ := l01Pick_some h5 (l := [4, 0, 2, (-1)]) (by simp) (by simp)
    simp only [List.mem_cons, List.not_mem_nil, or_false] at b5 b6
    exact ⟨_, _, _, _, ev_bind0 e1 (ev_pos g (ev_bind0 e5 (ev_bind0 e6 (Ev.now _)))), h6, by dsimp only; omega, by dsimp only; omega⟩
  · obtain ⟨n, d, a2, s2, e2, h2, b⟩ := l02Good_ev h1
    obtain ⟨b1, b2, _⟩ := ratioB_true b
    exact ⟨_, _, _, _, ev_bind0 e1 (ev_neg g (e2.bind (Ev.now _))), h2, by dsimp only; omega, by dsimp only; omega⟩

def floorM (an ad n : Int) : Int × Int := if RatioB an ad = true then (if -1000000000 ≤ n ∧ n ≤ 1000000000 then (an * n / ad, 0) else (0, 2)) else (0, 1)
theorem impl_FloorRatio_ev (an ad n : Int) : Ev (fun k => impl_FloorRatio.f k an ad n) (floorM an ad n) := by
  unfold impl_FloorRatio.f floorM
  refine (impl_IsRatio_ev an ad).bind ?_
  simp only [within_eq, Option.bind_some]
  by_cases h : RatioB an ad = true
  · refine ev_pos h ?_
    rw [if_pos h]
    by_cases g : -1000000000 ≤ n ∧ n ≤ 1000000000
    · refine ev_pos (by simpa using g) ?_
      obtain ⟨a, b, _⟩ := ratioB_true h
      have e := prod_bound (x := an) (y := n) (A := 1000000000) (B := 1000000000) (by omega) (by omega) (by omega) (by omega) (by omega) (by omega)
      rw [w64 (by omega) (by omega), if_pos g]
      exact ev_bind0 (floorDiv_eq (by omega) (by omega) (by omega)) (Ev.now _)
    · exact ev_neg (by simpa using g) (ev_ret (by rw [if_neg g]))
  · exact ev_neg h (ev_ret (by rw [if_neg h]))
theorem spec_FloorRatio_ev (an ad n : Int) : Ev (fun k => spec_FloorRatio.f k an ad n) (floorM an ad n) := by
  unfold spec_FloorRatio.f floorM
  refine (spec_IsRatio_ev an ad).bind ?_
  simp only [in_eq, Option.bind_some]
  by_cases h : RatioB an ad = true
  · refine ev_pos h ?_
    rw [if_pos h]
    by_cases g : -1000000000 ≤ n ∧ n ≤ 1000000000
    · refine ev_pos (by simpa using g) ?_
      obtain ⟨a, b, _⟩ := ratioB_true h
      have e := prod_bound (x := n) (y := an) (A := 1000000000) (B := 1000000000) (by omega) (by omega) (by omega) (by omega) (by omega) (by omega)
      rw [w64 (by omega) (by omega), if_pos g, Int.mul_comm an n]
      exact ev_bind0 (floor_eq (by omega) (by omega) (by omega)) (Ev.now _)
    · exact ev_neg (by simpa using g) (ev_ret (by rw [if_neg g]))
  · exact ev_neg h (ev_ret (by rw [if_neg h]))

theorem tdiv_exact {n g : Int} (hg : 0 < g) (h : g ∣ n) : Int.tdiv n g * g = n := Int.tdiv_mul_cancel h
theorem gc_dvd (a b : Int) : gc a b ∣ a ∧ gc a b ∣ b := by
  unfold gc
  exact ⟨Int.ofNat_dvd_left.2 (Nat.gcd_dvd_left _ _), Int.ofNat_dvd_left.2 (Nat.gcd_dvd_right _ _)⟩
theorem mkR_yes {n d x y : Int} (hd : 1 ≤ d) (h : mkR n d = (x, y, 0)) : ∃ g, 0 < g ∧ x * g = n ∧ y * g = d ∧ RatioB x y = true := by
  unfold mkR mkP at h
  rw [if_neg (by omega)] at h
  have hg := gc_pos (a := n) (b := d) (by omega)
  split at h
  · rename_i hr
    obtain ⟨rfl, h2⟩ := Prod.mk.inj h
    obtain ⟨rfl, _⟩ := Prod.mk.inj h2
    exact ⟨gc n d, hg, tdiv_exact hg (gc_dvd n d).1, tdiv_exact hg (gc_dvd n d).2, hr⟩
  · have := (Prod.mk.inj (Prod.mk.inj h).2).2; omega
theorem betL_yes {an ad bn bd : Int} (ha : 1 ≤ ad) (hb : 1 ≤ bd) : ∀ (n : Nat) (d : Int) {x y : Int}, d + n = 1001 → 1 ≤ d → betL an ad bn bd n d = (x, y, 0) → an * y < x * ad ∧ x * bd < bn * y ∧ y ≤ 1000 ∧ RatioB x y = true
  | 0, d, x, y, _, _, h => by unfold betL at h; have := (Prod.mk.inj (Prod.mk.inj h).2).2; omega
  | n + 1, d, x, y, hd, h1, h => by
    unfold betL at h
    split at h
    · rename_i c
      obtain ⟨g, hg, e1, e2, hr⟩ := mkR_yes h1 h
      obtain ⟨_, hy, _⟩ := ratioB_true hr
      have l1 : an * d < (an * d / ad + 1) * ad := by
        have := Int.lt_ediv_add_one_mul_self (an * d) (show 0 < ad by omega)
        exact this
      have l2 : (an * d / ad + 1) * bd ≤ bn * d - 1 := (Int.le_ediv_iff_mul_le (show 0 < bd by omega)).1 c
      rw [← e1] at l1 l2
      have hdg : y ≤ d := by
        rw [← e2]
        have := Int.mul_le_mul_of_nonneg_left (show 1 ≤ g by omega) (show 0 ≤ y by omega)
        omega
      rw [← e2] at l1 l2
      refine ⟨?_, ?_, by omega, hr⟩
      · have : an * y * g < x * ad * g := by
          have a1 : an * (y * g) = an * y * g := by rw [Int.mul_assoc]
          have a2 : x * g * ad = x * ad * g := by rw [Int.mul_assoc, Int.mul_comm g ad, ← Int.mul_assoc]
          rw [← a1, ← a2]; exact l1
        exact Int.lt_of_mul_lt_mul_right this (by omega)
      · have : x * bd * g < bn * y * g := by
          have a1 : bn * (y * g) = bn * y * g := by rw [Int.mul_assoc]
          have a2 : x * g * bd = x * bd * g := by rw [Int.mul_assoc, Int.mul_comm g bd, ← Int.mul_assoc]
          rw [← a1, ← a2]; omega
        exact Int.lt_of_mul_lt_mul_right this (by omega)
    · exact betL_yes ha hb n (d + 1) (by omega) (by omega) h
theorem betM_yes {an ad bn bd x y : Int} (h : betM an ad bn bd = (x, y, 0)) : compareM an ad x y = (-1, 0) ∧ compareM x y bn bd = (-1, 0) ∧ y ≤ 1000 := by
  unfold betM at h
  split at h
  · rename_i hr
    split at h
    · have := (Prod.mk.inj (Prod.mk.inj h).2).2; omega
    · obtain ⟨_, p, _⟩ := ratioB_true hr.1
      obtain ⟨_, q, _⟩ := ratioB_true hr.2
      obtain ⟨h1, h2, h3, h4⟩ := betL_yes p.1 q.1 1000 1 (by omega) (by omega) h
      refine ⟨?_, ?_, h3⟩
      · unfold compareM cmpI
        rw [if_pos ⟨hr.1, h4⟩, if_pos h1]
      · unfold compareM cmpI
        rw [if_pos ⟨h4, hr.2⟩, if_pos h2]
  · have := (Prod.mk.inj (Prod.mk.inj h).2).2; omega
theorem DrawBetween_ev {c : List Int} (hc : Code c) : ∃ a b e d, Ev (fun k => spec_DrawBetweenRatios.f k c) (a, b, e, d) := by
  obtain ⟨s, e, h⟩ := l01From_ev hc
  obtain ⟨n, d, a', s', e1, h1, b1⟩ := l02Draw_ev h
  obtain ⟨m, f, a'', s'', e2, h2, b2⟩ := l02Draw_ev h1
  by_cases g : RatioB n d = true
  · by_cases g2 : RatioB m f = true
    · have ec : ∃ t, spec_l02Compare.f n d m f = some t := by
        unfold spec_l02Compare.f
        split
        · exact ⟨_, rfl⟩
        · split <;> exact ⟨_, rfl⟩
      obtain ⟨t, et⟩ := ec
      by_cases g3 : t > 0
      · exact ⟨_, _, _, _, e.bind (e1.bind (e2.bind ((spec_IsRatio_ev n d).bind (ev_pos g ((spec_IsRatio_ev m f).bind (ev_pos g2 (ev_bind0 et (ev_pos g3 (Ev.now _)))))))))⟩
      · exact ⟨_, _, _, _, e.bind (e1.bind (e2.bind ((spec_IsRatio_ev n d).bind (ev_pos g ((spec_IsRatio_ev m f).bind (ev_pos g2 (ev_bind0 et (ev_neg g3 (Ev.now _)))))))))⟩
    · exact ⟨_, _, _, _, e.bind (e1.bind (e2.bind ((spec_IsRatio_ev n d).bind (ev_pos g ((spec_IsRatio_ev m f).bind (ev_neg g2 (Ev.now _)))))))⟩
  · exact ⟨_, _, _, _, e.bind (e1.bind (e2.bind ((spec_IsRatio_ev n d).bind (ev_neg g (Ev.now _)))))⟩
theorem DrawFloor_ev {c : List Int} (hc : Code c) : ∃ a b n, Ev (fun k => spec_DrawFloorRatio.f k c) (a, b, n) := by
  obtain ⟨s, e, h⟩ := l01From_ev hc
  obtain ⟨n, d, a', s', e1, h1, b1⟩ := l02Draw_ev h
  obtain ⟨x1, a1, s1, e2, h2, _⟩ := l01Next_some h1 (n := 2001) (by omega)
  obtain ⟨x2, a2, s2, e3, h3, _⟩ := l01Pick_some h2 (l := [1, wrap64 (x1 - 1000), 1000000000, 1000000001, (-1000000000)]) (by simp) (by simp)
  exact ⟨_, _, _, e.bind (e1.bind (ev_bind0 e2 (ev_bind0 e3 (Ev.now _))))⟩
theorem main : laws_FnBetween.Pure := by
  intro c _ _ hw
  apply Ev.rounds
  unfold laws_FnBetween.f
  by_cases g : (c.length : Int) > 4096
  · exact ev_bind0 (big_true g) (ev_pos rfl (Ev.now _))
  refine ev_bind0 (big_false g) (ev_neg (by decide) ?_)
  have hc := code_of hw g
  obtain ⟨an, ad, bn, bd, ex⟩ := DrawBetween_ev hc
  obtain ⟨fn, fd, n, ey⟩ := DrawFloor_ev hc
  have b1 := impl_BetweenRatios_ev an ad bn bd
  have b2 := spec_BetweenRatios_ev an ad bn bd
  have f1 := impl_FloorRatio_ev fn fd n
  have f2 := spec_FloorRatio_ev fn fd n
  generalize hm : betM an ad bn bd = m at b1 b2
  obtain ⟨x, y, one⟩ := m
  generalize hf : floorM fn fd n = q at f1 f2
  obtain ⟨fl, two⟩ := q
  refine ex.bind (b1.bind (b2.bind (ey.bind (f1.bind (f2.bind (ev_pos rfl (ev_neg (by simp) (ev_pos rfl ?_))))))))
  have fin : Ev (fun k => laws_FnBetween.j1 k one false an ad bn bd x y) true := by
    refine Ev.step (fun k => laws_FnBetween.j1.eq_2 ..) (ev_neg (by simp) ?_)
    by_cases g0 : one = 0
    · subst g0
      obtain ⟨h1, h2, h3⟩ := betM_yes hm
      have c1 := impl_CompareRatios_ev an ad x y
      have c2 := impl_CompareRatios_ev x y bn bd
      rw [h1] at c1
      rw [h2] at c2
      exact ev_pos rfl (c1.bind (c2.bind (ev_pos rfl (ev_pos rfl (ev_pos rfl (ev_pos rfl (ev_ret (by simpa using h3))))))))
    · exact ev_neg g0 (Ev.now _)
  dsimp only
  refine Ev.step (fun k => laws_FnBetween.j0.eq_2 ..) (ev_neg (by simp) ?_)
  by_cases g0 : two = 0
  · subst g0
    refine ev_pos rfl ?_
    unfold floorM at hf
    split at hf
    · rename_i hr
      split at hf
      · rename_i hn
        obtain ⟨rfl, _⟩ := Prod.mk.inj hf
        obtain ⟨p1, p2, _⟩ := ratioB_true hr
        have e := prod_bound (x := fn) (y := n) (A := 1000000000) (B := 1000000000) (by omega) (by omega) (by omega) (by omega) (by omega) (by omega)
        have e1 := Int.ediv_mul_add_emod (fn * n) fd
        have e2 := Int.emod_nonneg (fn * n) (show fd ≠ 0 by omega)
        have e3 := Int.emod_lt_of_pos (fn * n) (show 0 < fd by omega)
        rw [Int.mul_comm n fn]
        generalize fn * n % fd = r at *
        generalize hz : fn * n / fd * fd = z at *
        rw [w64 (n := z) (by omega) (by omega), w64 (n := fn * n) (by omega) (by omega), w64 (n := fn * n - z) (by omega) (by omega)]
        refine ev_neg (by omega) ?_
        rw [show decide (fn * n - z ≥ fd) = false by simp; omega]
        exact fin
      · have := (Prod.mk.inj hf).2; omega
    · have := (Prod.mk.inj hf).2; omega
  · exact ev_neg g0 fin

end Go.Proofs.Ytpkadlgnkcbcbaa.PureFnBetween
namespace Go.Proofs.Ytpkadlgnkcbcbaa.Pure
theorem FnBetween : QFnBetween.laws_FnBetween.Pure := PureFnBetween.main
end Go.Proofs.Ytpkadlgnkcbcbaa.Pure
