/- IsShot answers what the reference's answers, for every shot; no condition. -/
import Derived.Test.YtkedlfedjbgbiaaMa
import Derived.Test.YtkedlfedjbgbiaaPFnExactIsShotx
namespace Go.Proofs.Ytkedlfedjbgbiaa.GoFnExactIsShot
open Go.RowKit Go.Proofs.Ytkedlfedjbgbiaa.PFnExactIsShot Go.Proofs.YtkedlfedjbgbiaaW.PrintWords Go.Proofs.YtkedlfedjbgbiaaW.PrintLast Go.Proofs.Ytkedlfedjbgbiaa.Ma

/-! ### division, ranges -/
theorem in_eq (a b c : Int) : spec_l01In.f a b c = some (decide (b ≤ a ∧ a ≤ c)) := by
  unfold spec_l01In.f
  by_cases h : b ≤ a <;> simp [h]
theorem within_eq (a b c : Int) : impl_within.f a b c = some (decide (b ≤ a ∧ a ≤ c)) := by
  unfold impl_within.f
  by_cases h : b ≤ a <;> simp [h]
theorem tdiv_floor {a b : Int} (hb : 0 < b) : (Int.tmod a b < 0 → Int.tdiv a b - 1 = a / b) ∧ (¬ Int.tmod a b < 0 → Int.tdiv a b = a / b) := by
  have h1 := Int.tdiv_eq_ediv (a := a) (b := b)
  have h2 := Int.tmod_eq_emod (a := a) (b := b)
  have h3 := Int.emod_nonneg a (show b ≠ 0 by omega)
  have h4 := Int.emod_lt_of_pos a hb
  by_cases h : 0 ≤ a ∨ b ∣ a
  · rw [if_pos h] at h1 h2
    omega
  · rw [if_neg h] at h1 h2
    rw [Int.sign_eq_one_of_pos hb] at h1
    omega
theorem ediv_small {a b : Int} (hb : 0 < b) (h : -4611686018427387904 ≤ a) (h' : a ≤ 4611686018427387904) : -4611686018427387904 ≤ a / b ∧ a / b ≤ 4611686018427387904 := by
  have h1 : -4611686018427387904 * b ≤ a := by
    have := Int.mul_le_mul_of_nonneg_left (show 1 ≤ b by omega) (show (0 : Int) ≤ 4611686018427387904 by omega); omega
  have h2 : a < (4611686018427387904 + 1) * b := by
    have := Int.mul_le_mul_of_nonneg_left (show 1 ≤ b by omega) (show (0 : Int) ≤ 4611686018427387905 by omega); omega
  have h3 := (Int.le_ediv_iff_mul_le hb).2 h1
  have h4 := (Int.ediv_lt_iff_lt_mul hb).2 h2
  omega
theorem spec_IsShot_eq (a b c d : Int) : spec_IsShot.f a b c d = some (decide ((0 ≤ a ∧ a ≤ 200000) ∧ (-50000 ≤ b ∧ b ≤ 50000) ∧ (100 ≤ c ∧ c ≤ 10000) ∧ (0 ≤ d ∧ d ≤ 200000))) := by
  unfold spec_IsShot.f spec_l04Code.f
  simp only [in_eq, Option.bind_some]
  by_cases h0 : 0 ≤ a ∧ a ≤ 200000
  · by_cases h1 : -50000 ≤ b ∧ b ≤ 50000
    · by_cases h2 : 100 ≤ c ∧ c ≤ 10000
      · simp [h0, h1, h2]
      · simp [h0, h1, h2]
    · simp [h0, h1]
  · simp [h0]
theorem impl_IsShot_eq (a b c d : Int) : impl_IsShot.f a b c d = some (decide ((0 ≤ a ∧ a ≤ 200000) ∧ (-50000 ≤ b ∧ b ≤ 50000) ∧ (100 ≤ c ∧ c ≤ 10000) ∧ (0 ≤ d ∧ d ≤ 200000))) := by
  unfold impl_IsShot.f impl_isUp.f impl_isSide.f
  simp only [within_eq, Option.bind_some]
  by_cases h0 : 0 ≤ a ∧ a ≤ 200000
  · by_cases h1 : -50000 ≤ b ∧ b ≤ 50000
    · by_cases h2 : 100 ≤ c ∧ c ≤ 10000
      · simp [h0, h1, h2]
      · simp [h0, h1, h2]
    · simp [h0, h1]
  · simp [h0]

theorem pure (a b c d : Int) : laws_FnExactIsShot.f a b c d = some true := by
  unfold laws_FnExactIsShot.f laws_toShot.f
  simp only [Option.bind_some, spec_IsShot_eq, impl_IsShot_eq]
  simp
theorem walk (a b c d : Int) (_ : (Lit.int .i64 a).wf = true) (_ : (Lit.int .i64 b).wf = true) (_ : (Lit.int .i64 c).wf = true) (_ : (Lit.int .i64 d).wf = true) (W : World) :
    Calls Try.prog 3 #[.agg #[.int .i64 a, .int .i64 b, .int .i64 c, .int .i64 d]] W fun e w' => e = .returned (.bool true) ∧ Below W.heap.size W w' :=
  laws_FnExactIsShot.calls a b c d true W (pure a b c d)

end Go.Proofs.Ytkedlfedjbgbiaa.GoFnExactIsShot
