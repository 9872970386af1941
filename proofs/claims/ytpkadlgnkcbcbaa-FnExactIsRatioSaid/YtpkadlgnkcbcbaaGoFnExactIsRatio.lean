/- IsRatio answers what the reference's answers, for all arguments; no condition. -/
import Derived.Test.YtpkadlgnkcbcbaaMa
import Derived.Test.YtpkadlgnkcbcbaaPFnExactIsRatiox
namespace Go.Proofs.Ytpkadlgnkcbcbaa.GoFnExactIsRatio
open Go.RowKit Go.Proofs.Ytpkadlgnkcbcbaa.PFnExactIsRatio Go.Proofs.YtpkadlgnkcbcbaaW.PrintWords Go.Proofs.YtpkadlgnkcbcbaaW.PrintLast Go.Proofs.Ytpkadlgnkcbcbaa.Ma
set_option linter.unusedVariables false
set_option linter.unusedSimpArgs false

/-! ### division, ranges -/
theorem in_eq (a b c : Int) : spec_l01In.f a b c = some (decide (b ≤ a ∧ a ≤ c)) := by
  unfold spec_l01In.f
  by_cases h : b ≤ a <;> simp [h]
theorem within_eq (a b c : Int) : impl_within.f a b c = some (decide (b ≤ a ∧ a ≤ c)) := by
  unfold impl_within.f
  by_cases h : b ≤ a <;> simp [h]
theorem tdiv_floor {a b : Int} (hb : 0 < b) : (Int.tmod a b < 0 → Int.tdiv a b - 1 = a / b) ∧ (¬ Int.tmod a b < 0 → Int.tdiv a b = a / b) := by
  have h1 := Int.tdiv_eq_ediv (a := a) (b := b)
  have h2 := Int.tmod_eq_emod (a := a) (b := b)
  have h3 := Int.emod_nonneg a (show b ≠ 0 by omega)
  have h4 := Int.emod_lt_of_pos a hb
  by_cases h : 0 ≤ a ∨ b ∣ a
  · rw [if_pos h] at h1 h2
    omega
  · rw [if_neg h] at h1 h2
    rw [Int.sign_eq_one_of_pos hb] at h1
    omega
theorem ediv_small {a b : Int} (hb : 0 < b) (h : -4611686018427387904 ≤ a) (h' : a ≤ 4611686018427387904) : -4611686018427387904 ≤ a / b ∧ a / b ≤ 4611686018427387904 := by
  have h1 : -4611686018427387904 * b ≤ a := by
    have := Int.mul_le_mul_of_nonneg_left (show 1 ≤ b by omega) (show (0 : Int) ≤ 4611686018427387904 by omega); omega
  have h2 : a < (4611686018427387904 + 1) * b := by
    have := Int.mul_le_mul_of_nonneg_left (show 1 ≤ b by omega) (show (0 : Int) ≤ 4611686018427387905 by omega); omega
  have h3 := (Int.le_ediv_iff_mul_le hb).2 h1
  have h4 := (Int.ediv_lt_iff_lt_mul hb).2 h2
  omega
/-! ### fractions -/
theorem mx_max (a b : Int) : mx a b = max a b := by unfold mx; omega
def gc (a b : Int) : Int := (a.natAbs.gcd b.natAbs : Nat)
theorem gcd_step {a b : Int} (ha : 0 ≤ a) (hb : 0 < b) : gc b (Int.tmod a b) = gc a b := by
  unfold gc
  rw [Int.tmod_eq_emod_of_nonneg ha, Nat.gcd_comm a.natAbs, Nat.gcd_rec b.natAbs a.natAbs, Nat.gcd_comm (a.natAbs % b.natAbs)]
  have e : (a % b).natAbs = a.natAbs % b.natAbs := by
    obtain ⟨m, rfl⟩ := Int.eq_ofNat_of_zero_le ha
    obtain ⟨n, rfl⟩ := Int.eq_ofNat_of_zero_le (show 0 ≤ b by omega)
    rw [← Int.natCast_emod]; simp only [Int.natAbs_natCast]
  rw [e]
theorem gcd_zero {a : Int} (ha : 0 ≤ a) : gc a 0 = a := by unfold gc; simp; omega
theorem spec_l01Gcd_l0 : ∀ (n : Nat) (a b : Int), b = n → 0 ≤ a → Ev (fun k => spec_l01Gcd.l0 k a b) (gc a b) := by
  intro n
  induction n using Nat.strongRecOn with
  | ind n ih =>
    intro a b hb ha
    by_cases h : b = 0
    · subst h
      exact Ev.step (fun k => spec_l01Gcd.l0.eq_2 ..) (ev_pos rfl (ev_ret (gcd_zero ha).symm))
    · have h1 := Int.emod_lt_of_pos a (show 0 < b by omega)
      have h2 := Int.emod_nonneg a h
      have h3 := Int.tmod_eq_emod_of_nonneg (b := b) ha
      have := ih (Int.tmod a b).toNat (by omega) b (Int.tmod a b) (by omega) (by omega)
      rw [gcd_step ha (by omega)] at this
      exact Ev.step (fun k => spec_l01Gcd.l0.eq_2 ..) (ev_neg h this)
theorem impl_divisor_l0 : ∀ (n : Nat) (a b : Int), b = n → 0 ≤ a → Ev (fun k => impl_divisor.l0 k a b) (gc a b) := by
  intro n
  induction n using Nat.strongRecOn with
  | ind n ih =>
    intro a b hb ha
    by_cases h : b = 0
    · subst h
      exact Ev.step (fun k => impl_divisor.l0.eq_2 ..) (ev_pos rfl (ev_ret (gcd_zero ha).symm))
    · have h1 := Int.emod_lt_of_pos a (show 0 < b by omega)
      have h2 := Int.emod_nonneg a h
      have h3 := Int.tmod_eq_emod_of_nonneg (b := b) ha
      have := ih (Int.tmod a b).toNat (by omega) b (Int.tmod a b) (by omega) (by omega)
      rw [gcd_step ha (by omega)] at this
      exact Ev.step (fun k => impl_divisor.l0.eq_2 ..) (ev_neg h this)
theorem gc_abs (a b : Int) : gc (max a (-a)) b = gc a b := by unfold gc; congr 2; omega
theorem gc_abs2 (a b : Int) : gc a (max b (-b)) = gc a b := by unfold gc; congr 2; omega
theorem l01Abs_eq {a : Int} (h : -4611686018427387904 ≤ a) (h' : a ≤ 4611686018427387904) : spec_l01Abs.f a = some (max a (-a)) := by
  unfold spec_l01Abs.f; rw [w64 (by omega) (by omega), mx_max]
theorem abs_eq {a : Int} (h : -4611686018427387904 ≤ a) (h' : a ≤ 4611686018427387904) : impl_abs.f a = some (max a (-a)) := by
  unfold impl_abs.f
  by_cases g : a < 0
  · rw [if_pos g, w64 (by omega) (by omega)]; congr 1; omega
  · rw [if_neg g]; congr 1; omega
theorem l01Gcd_ev {a b : Int} (h : -4611686018427387904 ≤ a) (h' : a ≤ 4611686018427387904) (k : -4611686018427387904 ≤ b) (k' : b ≤ 4611686018427387904) : Ev (fun k => spec_l01Gcd.f k a b) (gc a b) := by
  have e := spec_l01Gcd_l0 (max b (-b)).toNat (max a (-a)) (max b (-b)) (by omega) (by omega)
  rw [gc_abs, gc_abs2] at e
  exact ev_bind0 (l01Abs_eq h h') (ev_bind0 (l01Abs_eq k k') e)
theorem divisor_ev {a b : Int} (ha : 0 ≤ a) (hb : 0 ≤ b) : Ev (fun k => impl_divisor.f k a b) (gc a b) := impl_divisor_l0 b.toNat a b (by omega) ha
/-- is it a fraction? -/
def RatioB (n d : Int) : Bool := decide (-1000000000 ≤ n ∧ n ≤ 1000000000) && decide (1 ≤ d ∧ d ≤ 1000000000) && (gc n d == 1)
theorem ratioB_true {n d : Int} (h : RatioB n d = true) : (-1000000000 ≤ n ∧ n ≤ 1000000000) ∧ (1 ≤ d ∧ d ≤ 1000000000) ∧ gc n d = 1 := by
  unfold RatioB at h
  simp only [Bool.and_eq_true, decide_eq_true_eq, beq_iff_eq] at h
  exact ⟨h.1.1, h.1.2, h.2⟩
theorem spec_IsRatio_ev (n d : Int) : Ev (fun k => spec_IsRatio.f k n d) (RatioB n d) := by
  unfold spec_IsRatio.f RatioB
  simp only [in_eq, Option.bind_some]
  by_cases a : -1000000000 ≤ n ∧ n ≤ 1000000000
  · refine ev_pos (by simpa using a) ?_
    by_cases b : 1 ≤ d ∧ d ≤ 1000000000
    · refine ev_pos (by simpa using b) ?_
      refine (l01Gcd_ev (by omega) (by omega) (by omega) (by omega)).bind (ev_ret ?_)
      simp [a, b]
    · exact ev_neg (by simpa using b) (ev_ret (by simp [b]))
  · exact ev_neg (by simpa using a) (ev_ret (by simp [a]))
theorem impl_IsRatio_ev (n d : Int) : Ev (fun k => impl_IsRatio.f k n d) (RatioB n d) := by
  unfold impl_IsRatio.f RatioB
  simp only [within_eq, Option.bind_some]
  by_cases a : -1000000000 ≤ n ∧ n ≤ 1000000000
  · refine ev_pos (by simpa using a) ?_
    by_cases b : 1 ≤ d ∧ d ≤ 1000000000
    · refine ev_pos (by simpa using b) ?_
      have e := divisor_ev (a := max n (-n)) (b := d) (by omega) (by omega)
      rw [gc_abs] at e
      refine ev_bind0 (abs_eq (by omega) (by omega)) (e.bind (ev_ret ?_))
      simp [a, b]
    · exact ev_neg (by simpa using b) (ev_ret (by simp [b]))
  · exact ev_neg (by simpa using a) (ev_ret (by simp [a]))

theorem pure (a b : Int) : ∃ k, laws_FnExactIsRatio.f k a b = some true := by
  apply Ev.rounds
  unfold laws_FnExactIsRatio.f laws_toRatio.f
  simp only [Option.bind_some]
  refine (spec_IsRatio_ev a b).bind ((impl_IsRatio_ev a b).bind (ev_neg (by simp) (Ev.now _)))
theorem walk (a b : Int) (_ : (Lit.int .i64 a).wf = true) (_ : (Lit.int .i64 b).wf = true) (W : World) :
    Calls Try.prog 3 #[.agg #[.int .i64 a, .int .i64 b]] W fun e w' => e = .returned (.bool true) ∧ Below W.heap.size W w' := by
  obtain ⟨k, h⟩ := pure a b
  exact laws_FnExactIsRatio.calls k a b true W h

end Go.Proofs.Ytpkadlgnkcbcbaa.GoFnExactIsRatio
