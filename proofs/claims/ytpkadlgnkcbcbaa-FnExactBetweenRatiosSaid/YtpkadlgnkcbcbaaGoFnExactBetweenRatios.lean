/- BetweenRatios answers what the reference's answers, for all arguments; no condition. -/
import Derived.Test.YtpkadlgnkcbcbaaMa
import Derived.Test.YtpkadlgnkcbcbaaQFnExactBetweenRatiosx
namespace Go.Proofs.Ytpkadlgnkcbcbaa.GoFnExactBetweenRatios
open Go.RowKit Go.Proofs.Ytpkadlgnkcbcbaa.QFnExactBetweenRatios Go.Proofs.YtpkadlgnkcbcbaaW.PrintWords Go.Proofs.YtpkadlgnkcbcbaaW.PrintLast Go.Proofs.Ytpkadlgnkcbcbaa.Ma
set_option linter.unusedVariables false
set_option linter.unusedSimpArgs false

/-! ### division, ranges -/
theorem in_eq (a b c : Int) : spec_l01In.f a b c = some (decide (b ≤ a ∧ a ≤ c)) := by
  unfold spec_l01In.f
  by_cases h : b ≤ a <;> simp [h]
theorem within_eq (a b c : Int) : impl_within.f a b c = some (decide (b ≤ a ∧ a ≤ c)) := by
  unfold impl_within.f
  by_cases h : b ≤ a <;> simp [h]
theorem tdiv_floor {a b : Int} (hb : 0 < b) : (Int.tmod a b < 0 → Int.tdiv a b - 1 = a / b) ∧ (¬ Int.tmod a b < 0 → Int.tdiv a b = a / b) := by
  have h1 := Int.tdiv_eq_ediv (a := a) (b := b)
  have h2 := Int.tmod_eq_emod (a := a) (b := b)
  have h3 := Int.emod_nonneg a (show b ≠ 0 by omega)
  have h4 := Int.emod_lt_of_pos a hb
  by_cases h : 0 ≤ a ∨ b ∣ a
  · rw [if_pos h] at h1 h2
    omega
  · rw [if_neg h] at h1 h2
    rw [Int.sign_eq_one_of_pos hb] at h1
    omega
theorem ediv_small {a b : Int} (hb : 0 < b) (h : -4611686018427387904 ≤ a) (h' : a ≤ 4611686018427387904) : -4611686018427387904 ≤ a / b ∧ a / b ≤ 4611686018427387904 := by
  have h1 : -4611686018427387904 * b ≤ a := by
    have := Int.mul_le_mul_of_nonneg_left (show 1 ≤ b by omega) (show (0 : Int) ≤ 4611686018427387904 by omega); omega
  have h2 : a < (4611686018427387904 + 1) * b := by
    have := Int.mul_le_mul_of_nonneg_left (show 1 ≤ b by omega) (show (0 : Int) ≤ 4611686018427387905 by omega); omega
  have h3 := (Int.le_ediv_iff_mul_le hb).2 h1
  have h4 := (Int.ediv_lt_iff_lt_mul hb).2 h2
  omega
theorem floorDiv_eq {a b : Int} (hb : 0 < b) (h : -4611686018427387904 ≤ a) (h' : a ≤ 4611686018427387904) : impl_floorDiv.f a b = some (a / b) := by
  have h1 := tdiv_floor (a := a) hb
  have h2 := ediv_small hb h h'
  unfold impl_floorDiv.f
  rw [if_neg (by omega)]
  by_cases c : Int.tmod a b < 0
  · have := h1.1 c
    rw [if_pos c, w64 (n := Int.tdiv a b) (by omega) (by omega), w64 (by omega) (by omega), this]
  · have := h1.2 c
    rw [if_neg c, w64 (by omega) (by omega), this]
theorem floor_eq {a b : Int} (hb : 0 < b) (h : -4611686018427387904 ≤ a) (h' : a ≤ 4611686018427387904) : spec_l01Floor.f a b = some (a / b) := by
  have h1 := tdiv_floor (a := a) hb
  have h2 := ediv_small hb h h'
  unfold spec_l01Floor.f
  rw [if_neg (by omega), if_neg (by omega)]
  by_cases c : Int.tmod a b < 0
  · have := h1.1 c
    rw [if_pos c, w64 (n := Int.tdiv a b) (by omega) (by omega), w64 (by omega) (by omega), this]
  · have := h1.2 c
    rw [if_neg c, w64 (by omega) (by omega), this]

/-! ### fractions -/
theorem mx_max (a b : Int) : mx a b = max a b := by unfold mx; omega
def gc (a b : Int) : Int := (a.natAbs.gcd b.natAbs : Nat)
theorem gcd_step {a b : Int} (ha : 0 ≤ a) (hb : 0 < b) : gc b (Int.tmod a b) = gc a b := by
  unfold gc
  rw [Int.tmod_eq_emod_of_nonneg ha, Nat.gcd_comm a.natAbs, Nat.gcd_rec b.natAbs a.natAbs, Nat.gcd_comm (a.natAbs % b.natAbs)]
  have e : (a % b).natAbs = a.natAbs % b.natAbs := by
    obtain ⟨m, rfl⟩ := Int.eq_ofNat_of_zero_le ha
    obtain ⟨n, rfl⟩ := Int.eq_ofNat_of_zero_le (show 0 ≤ b by omega)
    rw [← Int.natCast_emod]; simp only [Int.natAbs_natCast]
  rw [e]
theorem gcd_zero {a : Int} (ha : 0 ≤ a) : gc a 0 = a := by unfold gc; simp; omega
theorem spec_l01Gcd_l0 : ∀ (n : Nat) (a b : Int), b = n → 0 ≤ a → Ev (fun k => spec_l01Gcd.l0 k a b) (gc a b) := by
  intro n
  induction n using Nat.strongRecOn with
  | ind n ih =>
    intro a b hb ha
    by_cases h : b = 0
    · subst h
      exact Ev.step (fun k => spec_l01Gcd.l0.eq_2 ..) (ev_pos rfl (ev_ret (gcd_zero ha).symm))
    · have h1 := Int.emod_lt_of_pos a (show 0 < b by omega)
      have h2 := Int.emod_nonneg a h
      have h3 := Int.tmod_eq_emod_of_nonneg (b := b) ha
      have := ih (Int.tmod a b).toNat (by omega) b (Int.tmod a b) (by omega) (by omega)
      rw [gcd_step ha (by omega)] at this
      exact Ev.step (fun k => spec_l01Gcd.l0.eq_2 ..) (ev_neg h this)
theorem impl_divisor_l0 : ∀ (n : Nat) (a b : Int), b = n → 0 ≤ a → Ev (fun k => impl_divisor.l0 k a b) (gc a b) := by
  intro n
  induction n using Nat.strongRecOn with
  | ind n ih =>
    intro a b hb ha
    by_cases h : b = 0
    · subst h
      exact Ev.step (fun k => impl_divisor.l0.eq_2 ..) (ev_pos rfl (ev_ret (gcd_zero ha).symm))
    · have h1 := Int.emod_lt_of_pos a (show 0 < b by omega)
      have h2 := Int.emod_nonneg a h
      have h3 := Int.tmod_eq_emod_of_nonneg (b := b) ha
      have := ih (Int.tmod a b).toNat (by omega) b (Int.tmod a b) (by omega) (by omega)
      rw [gcd_step ha (by omega)] at this
      exact Ev.step (fun k => impl_divisor.l0.eq_2 ..) (ev_neg h this)
theorem gc_abs (a b : Int) : gc (max a (-a)) b = gc a b := by unfold gc; congr 2; omega
theorem gc_abs2 (a b : Int) : gc a (max b (-b)) = gc a b := by unfold gc; congr 2; omega
theorem l01Abs_eq {a : Int} (h : -4611686018427387904 ≤ a) (h' : a ≤ 4611686018427387904) : spec_l01Abs.f a = some (max a (-a)) := by
  unfold spec_l01Abs.f; rw [w64 (by omega) (by omega), mx_max]
theorem abs_eq {a : Int} (h : -4611686018427387904 ≤ a) (h' : a ≤ 4611686018427387904) : impl_abs.f a = some (max a (-a)) := by
  unfold impl_abs.f
  by_cases g : a < 0
  · rw [if_pos g, w64 (by omega) (by omega)]; congr 1; omega
  · rw [if_neg g]; congr 1; omega
theorem l01Gcd_ev {a b : Int} (h : -4611686018427387904 ≤ a) (h' : a ≤ 4611686018427387904) (k : -4611686018427387904 ≤ b) (k' : b ≤ 4611686018427387904) : Ev (fun k => spec_l01Gcd.f k a b) (gc a b) := by
  have e := spec_l01Gcd_l0 (max b (-b)).toNat (max a (-a)) (max b (-b)) (by omega) (by omega)
  rw [gc_abs, gc_abs2] at e
  exact ev_bind0 (l01Abs_eq h h') (ev_bind0 (l01Abs_eq k k') e)
theorem divisor_ev {a b : Int} (ha : 0 ≤ a) (hb : 0 ≤ b) : Ev (fun k => impl_divisor.f k a b) (gc a b) := impl_divisor_l0 b.toNat a b (by omega) ha
/-- is it a fraction? -/
def RatioB (n d : Int) : Bool := decide (-1000000000 ≤ n ∧ n ≤ 1000000000) && decide (1 ≤ d ∧ d ≤ 1000000000) && (gc n d == 1)
theorem ratioB_true {n d : Int} (h : RatioB n d = true) : (-1000000000 ≤ n ∧ n ≤ 1000000000) ∧ (1 ≤ d ∧ d ≤ 1000000000) ∧ gc n d = 1 := by
  unfold RatioB at h
  simp only [Bool.and_eq_true, decide_eq_true_eq, beq_iff_eq] at h
  exact ⟨h.1.1, h.1.2, h.2⟩
theorem spec_IsRatio_ev (n d : Int) : Ev (fun k => spec_IsRatio.f k n d) (RatioB n d) := by
  unfold spec_IsRatio.f RatioB
  simp only [in_eq, Option.bind_some]
  by_cases a : -1000000000 ≤ n ∧ n ≤ 1000000000
  · refine ev_pos (by simpa using a) ?_
    by_cases b : 1 ≤ d ∧ d ≤ 1000000000
    · refine ev_pos (by simpa using b) ?_
      refine (l01Gcd_ev (by omega) (by omega) (by omega) (by omega)).bind (ev_ret ?_)
      simp [a, b]
    · exact ev_neg (by simpa using b) (ev_ret (by simp [b]))
  · exact ev_neg (by simpa using a) (ev_ret (by simp [a]))
theorem impl_IsRatio_ev (n d : Int) : Ev (fun k => impl_IsRatio.f k n d) (RatioB n d) := by
  unfold impl_IsRatio.f RatioB
  simp only [within_eq, Option.bind_some]
  by_cases a : -1000000000 ≤ n ∧ n ≤ 1000000000
  · refine ev_pos (by simpa using a) ?_
    by_cases b : 1 ≤ d ∧ d ≤ 1000000000
    · refine ev_pos (by simpa using b) ?_
      have e := divisor_ev (a := max n (-n)) (b := d) (by omega) (by omega)
      rw [gc_abs] at e
      refine ev_bind0 (abs_eq (by omega) (by omega)) (e.bind (ev_ret ?_))
      simp [a, b]
    · exact ev_neg (by simpa using b) (ev_ret (by simp [b]))
  · exact ev_neg (by simpa using a) (ev_ret (by simp [a]))

theorem tdiv_small {a b : Int} (h : -4611686018427387904 ≤ a) (h' : a ≤ 4611686018427387904) : -4611686018427387904 ≤ Int.tdiv a b ∧ Int.tdiv a b ≤ 4611686018427387904 := by
  have := Int.natAbs_tdiv_le_natAbs a b
  omega
theorem gc_pos {a b : Int} (hb : b ≠ 0) : 0 < gc a b := by
  unfold gc
  have := Nat.gcd_pos_of_pos_right a.natAbs (show 0 < b.natAbs by omega)
  omega
/-- a quotient, brought to its lowest terms; the denominator is greater than 0 -/
def mkP (n d : Int) : Int × Int × Int := if RatioB (Int.tdiv n (gc n d)) (Int.tdiv d (gc n d)) = true then (Int.tdiv n (gc n d), Int.tdiv d (gc n d), 0) else (0, 0, 3)
def mkR (n d : Int) : Int × Int × Int := if d < 0 then mkP (-n) (-d) else mkP n d
theorem spec_l02Make_j0 {n d : Int} (h : -4611686018427387904 ≤ n) (h' : n ≤ 4611686018427387904) (k : 0 < d) (k' : d ≤ 4611686018427387904) : Ev (fun k => spec_l02Make.j0 k n d) (mkP n d) := by
  have g := gc_pos (a := n) (b := d) (by omega)
  have t1 := tdiv_small (b := gc n d) h h'
  have t2 := tdiv_small (a := d) (b := gc n d) (by omega) k'
  refine Ev.step (fun k => spec_l02Make.j0.eq_2 ..) ((l01Gcd_ev h h' (by omega) k').bind (ev_neg (by omega) ?_))
  rw [w64 (n := Int.tdiv n (gc n d)) (by omega) (by omega), w64 (n := Int.tdiv d (gc n d)) (by omega) (by omega)]
  refine (spec_IsRatio_ev _ _).bind ?_
  unfold mkP
  by_cases c : RatioB (Int.tdiv n (gc n d)) (Int.tdiv d (gc n d)) = true
  · exact ev_pos c (ev_ret (by rw [if_pos c]))
  · exact ev_neg c (ev_ret (by rw [if_neg c]))
theorem spec_l02Make_ev {n d : Int} (h : -4611686018427387904 ≤ n) (h' : n ≤ 4611686018427387904) (k : -4611686018427387904 ≤ d) (k' : d ≤ 4611686018427387904) (hd : d ≠ 0) : Ev (fun k => spec_l02Make.f k n d) (mkR n d) := by
  unfold spec_l02Make.f mkR
  by_cases c : d < 0
  · refine ev_pos c ?_
    rw [w64 (by omega) (by omega), w64 (by omega) (by omega), if_pos c]
    exact spec_l02Make_j0 (by omega) (by omega) (by omega) (by omega)
  · refine ev_neg c ?_
    rw [if_neg c]
    exact spec_l02Make_j0 h h' (by omega) k'
theorem impl_reduced_j0 {n d : Int} (h : -4611686018427387904 ≤ n) (h' : n ≤ 4611686018427387904) (k : 0 < d) (k' : d ≤ 4611686018427387904) : Ev (fun k => impl_reduced.j0 k n d) (mkP n d) := by
  have g := gc_pos (a := n) (b := d) (by omega)
  have t1 := tdiv_small (b := gc n d) h h'
  have t2 := tdiv_small (a := d) (b := gc n d) (by omega) k'
  have e := divisor_ev (a := max n (-n)) (b := d) (by omega) (by omega)
  rw [gc_abs] at e
  refine Ev.step (fun k => impl_reduced.j0.eq_2 ..) (ev_bind0 (abs_eq h h') (e.bind (ev_neg (by omega) ?_)))
  rw [w64 (n := Int.tdiv n (gc n d)) (by omega) (by omega), w64 (n := Int.tdiv d (gc n d)) (by omega) (by omega)]
  refine (impl_IsRatio_ev _ _).bind ?_
  unfold mkP
  by_cases c : RatioB (Int.tdiv n (gc n d)) (Int.tdiv d (gc n d)) = true
  · exact ev_pos c (ev_ret (by rw [if_pos c]))
  · exact ev_neg c (ev_ret (by rw [if_neg c]))
theorem impl_reduced_ev {n d : Int} (h : -4611686018427387904 ≤ n) (h' : n ≤ 4611686018427387904) (k : -4611686018427387904 ≤ d) (k' : d ≤ 4611686018427387904) (hd : d ≠ 0) : Ev (fun k => impl_reduced.f k n d) (mkR n d) := by
  unfold impl_reduced.f mkR
  by_cases c : d < 0
  · refine ev_pos c ?_
    rw [w64 (by omega) (by omega), w64 (by omega) (by omega), if_pos c]
    exact impl_reduced_j0 (by omega) (by omega) (by omega) (by omega)
  · refine ev_neg c ?_
    rw [if_neg c]
    exact impl_reduced_j0 h h' (by omega) k'

theorem prod_bound {x y A B : Int} (h : -A ≤ x) (h' : x ≤ A) (k : -B ≤ y) (k' : y ≤ B) (hA : 0 ≤ A) (hB : 0 ≤ B) : -(A * B) ≤ x * y ∧ x * y ≤ A * B := by
  have e1 := Int.mul_nonneg (show 0 ≤ A - x by omega) (show 0 ≤ B - y by omega)
  have e2 := Int.mul_nonneg (show 0 ≤ A + x by omega) (show 0 ≤ B + y by omega)
  have e3 := Int.mul_nonneg (show 0 ≤ A - x by omega) (show 0 ≤ B + y by omega)
  have e4 := Int.mul_nonneg (show 0 ≤ A + x by omega) (show 0 ≤ B - y by omega)
  rw [Int.sub_mul, Int.mul_sub, Int.mul_sub] at e1
  rw [Int.add_mul, Int.mul_add, Int.mul_add] at e2
  rw [Int.sub_mul, Int.mul_add, Int.mul_add] at e3
  rw [Int.add_mul, Int.mul_sub, Int.mul_sub] at e4
  omega
/-- -1, 0 or 1 -/
def cmpI (a b : Int) : Int := if a < b then -1 else if b < a then 1 else 0
def compareM (an ad bn bd : Int) : Int × Int := if RatioB an ad = true ∧ RatioB bn bd = true then (cmpI (an * bd) (bn * ad), 0) else (0, 1)
theorem cross_bound {an ad bn bd : Int} (h : RatioB an ad = true) (h' : RatioB bn bd = true) : (-1000000000000000000 ≤ an * bd ∧ an * bd ≤ 1000000000000000000) ∧ (-1000000000000000000 ≤ bn * ad ∧ bn * ad ≤ 1000000000000000000) ∧ (1 ≤ ad * bd ∧ ad * bd ≤ 1000000000000000000) := by
  obtain ⟨a, b, _⟩ := ratioB_true h
  obtain ⟨c, d, _⟩ := ratioB_true h'
  have e1 := prod_bound (x := an) (y := bd) (A := 1000000000) (B := 1000000000) (by omega) (by omega) (by omega) (by omega) (by omega) (by omega)
  have e2 := prod_bound (x := bn) (y := ad) (A := 1000000000) (B := 1000000000) (by omega) (by omega) (by omega) (by omega) (by omega) (by omega)
  have e3 := prod_bound (x := ad) (y := bd) (A := 1000000000) (B := 1000000000) (by omega) (by omega) (by omega) (by omega) (by omega) (by omega)
  have e4 := Int.mul_pos (show 0 < ad by omega) (show 0 < bd by omega)
  omega
/-! ### a fraction between two -/
def betL (an ad bn bd : Int) : Nat → Int → Int × Int × Int
  | 0, _ => (0, 0, 4)
  | n + 1, d => if an * d / ad + 1 ≤ (bn * d - 1) / bd then mkR (an * d / ad + 1) d else betL an ad bn bd n (d + 1)
def betM (an ad bn bd : Int) : Int × Int × Int := if RatioB an ad = true ∧ RatioB bn bd = true then (if an * bd ≥ bn * ad then (0, 0, 5) else betL an ad bn bd 1000 1) else (0, 0, 1)
theorem low_bound {an ad d : Int} (h : RatioB an ad = true) (h1 : 1 ≤ d) (h2 : d ≤ 1000) : (-1000000000000 ≤ an * d ∧ an * d ≤ 1000000000000) ∧ (-1000000000000 ≤ an * d / ad ∧ an * d / ad ≤ 1000000000000) ∧ (-1000000000001 ≤ (an * d - 1) / ad ∧ (an * d - 1) / ad ≤ 1000000000000) := by
  obtain ⟨a, b, _⟩ := ratioB_true h
  have e := prod_bound (x := an) (y := d) (A := 1000000000) (B := 1000) (by omega) (by omega) (by omega) (by omega) (by omega) (by omega)
  have e' : -1000000000000 ≤ an * d ∧ an * d ≤ 1000000000000 := by omega
  generalize an * d = x at *
  refine ⟨e', ?_, ?_⟩
  · constructor
    · apply (Int.le_ediv_iff_mul_le (by omega)).2
      have := Int.mul_le_mul_of_nonneg_left (show 1 ≤ ad by omega) (show (0 : Int) ≤ 1000000000000 by omega); omega
    · have := (Int.ediv_lt_iff_lt_mul (show 0 < ad by omega) (a := x) (b := 1000000000001)).2 (by
        have := Int.mul_le_mul_of_nonneg_left (show 1 ≤ ad by omega) (show (0 : Int) ≤ 1000000000001 by omega); omega)
      omega
  · constructor
    · apply (Int.le_ediv_iff_mul_le (by omega)).2
      have := Int.mul_le_mul_of_nonneg_left (show 1 ≤ ad by omega) (show (0 : Int) ≤ 1000000000001 by omega); omega
    · have := (Int.ediv_lt_iff_lt_mul (show 0 < ad by omega) (a := x - 1) (b := 1000000000001)).2 (by
        have := Int.mul_le_mul_of_nonneg_left (show 1 ≤ ad by omega) (show (0 : Int) ≤ 1000000000001 by omega); omega)
      omega
theorem impl_BetweenRatios_l0 {an ad bn bd : Int} (h : RatioB an ad = true) (h' : RatioB bn bd = true) : ∀ (n : Nat) (d : Int), d + n = 1001 → 1 ≤ d → Ev (fun k => impl_BetweenRatios.l0 k d an ad bn bd) (betL an ad bn bd n d) := by
  intro n
  induction n with
  | zero =>
    intro d hd h1
    exact Ev.step (fun k => impl_BetweenRatios.l0.eq_2 ..) (ev_neg (by omega) (Ev.now _))
  | succ n ih =>
    intro d hd h1
    obtain ⟨a1, a2, _⟩ := low_bound (d := d) h (by omega) (by omega)
    obtain ⟨b1, _, b2⟩ := low_bound (d := d) h' (by omega) (by omega)
    obtain ⟨_, p, _⟩ := ratioB_true h
    obtain ⟨_, q, _⟩ := ratioB_true h'
    refine Ev.step (fun k => impl_BetweenRatios.l0.eq_2 ..) (ev_pos (by omega) ?_)
    rw [w64 (n := an * d) (by omega) (by omega), w64 (n := bn * d) (by omega) (by omega), w64 (n := bn * d - 1) (by omega) (by omega), w64 (n := d + 1) (by omega) (by omega)]
    refine ev_bind0 (floorDiv_eq (by omega) (by omega) (by omega)) (ev_bind0 (floorDiv_eq (by omega) (by omega) (by omega)) ?_)
    rw [w64 (n := an * d / ad + 1) (by omega) (by omega)]
    unfold betL
    by_cases c : an * d / ad + 1 ≤ (bn * d - 1) / bd
    · rw [if_pos c]
      exact ev_pos c ((impl_reduced_ev (by omega) (by omega) (by omega) (by omega) (by omega)).bind (Ev.now _))
    · rw [if_neg c]
      exact ev_neg c (ih (d + 1) (by omega) (by omega))
theorem spec_BetweenRatios_l0 {an ad bn bd : Int} (h : RatioB an ad = true) (h' : RatioB bn bd = true) : ∀ (n : Nat) (d : Int), d + n = 1001 → 1 ≤ d → Ev (fun k => spec_BetweenRatios.l0 k d an ad bn bd) (betL an ad bn bd n d) := by
  intro n
  induction n with
  | zero =>
    intro d hd h1
    exact Ev.step (fun k => spec_BetweenRatios.l0.eq_2 ..) (ev_neg (by omega) (Ev.now _))
  | succ n ih =>
    intro d hd h1
    obtain ⟨a1, a2, _⟩ := low_bound (d := d) h (by omega) (by omega)
    obtain ⟨b1, _, b2⟩ := low_bound (d := d) h' (by omega) (by omega)
    obtain ⟨_, p, _⟩ := ratioB_true h
    obtain ⟨_, q, _⟩ := ratioB_true h'
    have hc : -(-(bn * d) / bd) = (bn * d - 1) / bd + 1 := by
      have e1 := Int.ediv_mul_add_emod (bn * d - 1) bd
      have e2 := Int.emod_nonneg (bn * d - 1) (show bd ≠ 0 by omega)
      have e3 := Int.emod_lt_of_pos (bn * d - 1) (show 0 < bd by omega)
      have e4 := Int.ediv_mul_add_emod (-(bn * d)) bd
      have e5 := Int.emod_nonneg (-(bn * d)) (show bd ≠ 0 by omega)
      have e6 := Int.emod_lt_of_pos (-(bn * d)) (show 0 < bd by omega)
      generalize (bn * d - 1) % bd = r1 at *
      generalize (-(bn * d)) % bd = r2 at *
      generalize (bn * d - 1) / bd = q1 at *
      generalize (-(bn * d)) / bd = q2 at *
      generalize bn * d = x at *
      -- q1*bd + r1 = x - 1, q2*bd + r2 = -x
      have h1 : (q1 + q2) * bd = - 1 - r1 - r2 := by rw [Int.add_mul]; omega
      have h2 : q1 + q2 < 0 := by
        rcases Int.lt_or_le (q1 + q2) 0 with h | h
        · exact h
        · have := Int.mul_nonneg h (show 0 ≤ bd by omega); omega
      have h3 : -2 < q1 + q2 := by
        rcases Int.lt_or_le (-2) (q1 + q2) with h | h
        · exact h
        · have := Int.mul_le_mul_of_nonneg_right h (show 0 ≤ bd by omega); omega
      omega
    refine Ev.step (fun k => spec_BetweenRatios.l0.eq_2 ..) (ev_pos (by omega) ?_)
    rw [Int.mul_comm d an, Int.mul_comm d bn, w64 (n := an * d) (by omega) (by omega), w64 (n := bn * d) (by omega) (by omega), w64 (n := d + 1) (by omega) (by omega)]
    refine ev_bind0 (floor_eq (by omega) (by omega) (by omega)) (ev_bind0 (b := (bn * d - 1) / bd + 1) ?_ ?_)
    · unfold spec_l01Ceil.f
      rw [w64 (n := -(bn * d)) (by omega) (by omega), floor_eq (by omega) (by omega) (by omega), Option.bind_some, w64 (by omega) (by omega), hc]
    rw [w64 (n := an * d / ad + 1) (by omega) (by omega)]
    unfold betL
    by_cases c : an * d / ad + 1 ≤ (bn * d - 1) / bd
    · rw [if_pos c]
      exact ev_pos (by omega) ((spec_l02Make_ev (by omega) (by omega) (by omega) (by omega) (by omega)).bind (Ev.now _))
    · rw [if_neg c]
      exact ev_neg (by omega) (ih (d + 1) (by omega) (by omega))
theorem impl_BetweenRatios_ev (an ad bn bd : Int) : Ev (fun k => impl_BetweenRatios.f k an ad bn bd) (betM an ad bn bd) := by
  unfold impl_BetweenRatios.f betM
  refine (impl_IsRatio_ev an ad).bind ?_
  by_cases h : RatioB an ad = true
  · refine ev_pos h ((impl_IsRatio_ev bn bd).bind (Ev.step (fun k => impl_BetweenRatios.j0.eq_2 ..) ?_))
    by_cases h' : RatioB bn bd = true
    · refine ev_neg (by simp [h']) ?_
      obtain ⟨a, b, c⟩ := cross_bound h h'
      rw [w64 (n := an * bd) (by omega) (by omega), w64 (n := bn * ad) (by omega) (by omega), if_pos ⟨h, h'⟩]
      by_cases g : an * bd ≥ bn * ad
      · exact ev_pos g (ev_ret (by rw [if_pos g]))
      · refine ev_neg g ?_
        have e : (if an * bd ≥ bn * ad then ((0 : Int), (0 : Int), (5 : Int)) else betL an ad bn bd 1000 1) = betL an ad bn bd 1000 1 := if_neg g
        rw [e]
        exact impl_BetweenRatios_l0 h h' 1000 1 (by omega) (by omega)
    · exact ev_pos (by simp [h']) (ev_ret (by rw [if_neg (by simp [h'])]))
  · exact ev_neg h (Ev.step (fun k => impl_BetweenRatios.j0.eq_2 ..) (ev_pos rfl (ev_ret (by rw [if_neg (by simp [h])]))))
theorem spec_BetweenRatios_ev (an ad bn bd : Int) : Ev (fun k => spec_BetweenRatios.f k an ad bn bd) (betM an ad bn bd) := by
  unfold spec_BetweenRatios.f betM
  refine (spec_IsRatio_ev an ad).bind ?_
  by_cases h : RatioB an ad = true
  · refine ev_pos h ((spec_IsRatio_ev bn bd).bind (Ev.step (fun k => spec_BetweenRatios.j0.eq_2 ..) ?_))
    by_cases h' : RatioB bn bd = true
    · refine ev_neg (by simp [h']) ?_
      obtain ⟨a, b, c⟩ := cross_bound h h'
      rw [if_pos ⟨h, h'⟩]
      by_cases g : an * bd ≥ bn * ad
      · have e : ∃ t, spec_l02Compare.f an ad bn bd = some t ∧ t ≥ 0 := by
          unfold spec_l02Compare.f
          rw [w64 (n := an * bd) (by omega) (by omega), w64 (n := bn * ad) (by omega) (by omega), w64 (by omega) (by omega), if_neg (by omega)]
          split
          · exact ⟨_, rfl, by omega⟩
          · exact ⟨_, rfl, by omega⟩
        obtain ⟨t, et, ht⟩ := e
        exact ev_bind0 et (ev_pos ht (ev_ret (by rw [if_pos g])))
      · have e : spec_l02Compare.f an ad bn bd = some (-1) := by
          unfold spec_l02Compare.f
          rw [w64 (n := an * bd) (by omega) (by omega), w64 (n := bn * ad) (by omega) (by omega), w64 (by omega) (by omega), if_pos (by omega)]
        have e1 : (if an * bd ≥ bn * ad then ((0 : Int), (0 : Int), (5 : Int)) else betL an ad bn bd 1000 1) = betL an ad bn bd 1000 1 := if_neg g
        rw [e1]
        exact ev_bind0 e (ev_neg (by omega) (spec_BetweenRatios_l0 h h' 1000 1 (by omega) (by omega)))
    · exact ev_pos (by simp [h']) (ev_ret (by rw [if_neg (by simp [h'])]))
  · exact ev_neg h (Ev.step (fun k => spec_BetweenRatios.j0.eq_2 ..) (ev_pos rfl (ev_ret (by rw [if_neg (by simp [h])]))))

theorem pure (a b c d : Int) : ∃ k, laws_FnExactBetweenRatios.f k a b c d = some true := by
  apply Ev.rounds
  unfold laws_FnExactBetweenRatios.f laws_toRatio.f laws_eqRatio.f
  simp only [Option.bind_some]
  refine (spec_BetweenRatios_ev a b c d).bind ((impl_BetweenRatios_ev a b c d).bind ?_)
  simp only [if_true, Option.bind_some]
  exact Ev.now _
theorem walk (a b : Int) (_ : (Lit.int .i64 a).wf = true) (_ : (Lit.int .i64 b).wf = true) (c d : Int) (_ : (Lit.int .i64 c).wf = true) (_ : (Lit.int .i64 d).wf = true) (W : World) :
    Calls Try.prog 10 #[.agg #[.int .i64 a, .int .i64 b], .agg #[.int .i64 c, .int .i64 d]] W fun e w' => e = .returned (.bool true) ∧ Below W.heap.size W w' := by
  obtain ⟨k, h⟩ := pure a b c d
  exact laws_FnExactBetweenRatios.calls k a b c d true W h ⟨rfl⟩

end Go.Proofs.Ytpkadlgnkcbcbaa.GoFnExactBetweenRatios
