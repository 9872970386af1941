/- FloorRatio answers what the reference's answers, for all arguments; no condition. -/
import Derived.Test.YtpkadlgnkcbcbaaMa
import Derived.Test.YtpkadlgnkcbcbaaPFnExactFloorRatiox
namespace Go.Proofs.Ytpkadlgnkcbcbaa.GoFnExactFloorRatio
open Go.RowKit Go.Proofs.Ytpkadlgnkcbcbaa.PFnExactFloorRatio Go.Proofs.YtpkadlgnkcbcbaaW.PrintWords Go.Proofs.YtpkadlgnkcbcbaaW.PrintLast Go.Proofs.Ytpkadlgnkcbcbaa.Ma
set_option linter.unusedVariables false
set_option linter.unusedSimpArgs false

/-! ### division, ranges -/
theorem in_eq (a b c : Int) : spec_l01In.f a b c = some (decide (b ≤ a ∧ a ≤ c)) := by
  unfold spec_l01In.f
  by_cases h : b ≤ a <;> simp [h]
theorem within_eq (a b c : Int) : impl_within.f a b c = some (decide (b ≤ a ∧ a ≤ c)) := by
  unfold impl_within.f
  by_cases h : b ≤ a <;> simp [h]
theorem tdiv_floor {a b : Int} (hb : 0 < b) : (Int.tmod a b < 0 → Int.tdiv a b - 1 = a / b) ∧ (¬ Int.tmod a b < 0 → Int.tdiv a b = a / b) := by
  have h1 := Int.tdiv_eq_ediv (a := a) (b := b)
  have h2 := Int.tmod_eq_emod (a := a) (b := b)
  have h3 := Int.emod_nonneg a (show b ≠ 0 by omega)
  have h4 := Int.emod_lt_of_pos a hb
  by_cases h : 0 ≤ a ∨ b ∣ a
  · rw [if_pos h] at h1 h2
    omega
  · rw [if_neg h] at h1 h2
    rw [Int.sign_eq_one_of_pos hb] at h1
    omega
theorem ediv_small {a b : Int} (hb : 0 < b) (h : -4611686018427387904 ≤ a) (h' : a ≤ 4611686018427387904) : -4611686018427387904 ≤ a / b ∧ a / b ≤ 4611686018427387904 := by
  have h1 : -4611686018427387904 * b ≤ a := by
    have := Int.mul_le_mul_of_nonneg_left (show 1 ≤ b by omega) (show (0 : Int) ≤ 4611686018427387904 by omega); omega
  have h2 : a < (4611686018427387904 + 1) * b := by
    have := Int.mul_le_mul_of_nonneg_left (show 1 ≤ b by omega) (show (0 : Int) ≤ 4611686018427387905 by omega); omega
  have h3 := (Int.le_ediv_iff_mul_le hb).2 h1
  have h4 := (Int.ediv_lt_iff_lt_mul hb).2 h2
  omega
theorem floorDiv_eq {a b : Int} (hb : 0 < b) (h : -4611686018427387904 ≤ a) (h' : a ≤ 4611686018427387904) : impl_floorDiv.f a b = some (a / b) := by
  have h1 := tdiv_floor (a := a) hb
  have h2 := ediv_small hb h h'
  unfold impl_floorDiv.f
  rw [if_neg (by omega)]
  by_cases c : Int.tmod a b < 0
  · have := h1.1 c
    rw [if_pos c, w64 (n := Int.tdiv a b) (by omega) (by omega), w64 (by omega) (by omega), this]
  · have := h1.2 c
    rw [if_neg c, w64 (by omega) (by omega), this]
theorem floor_eq {a b : Int} (hb : 0 < b) (h : -4611686018427387904 ≤ a) (h' : a ≤ 4611686018427387904) : spec_l01Floor.f a b = some (a / b) := by
  have h1 := tdiv_floor (a := a) hb
  have h2 := ediv_small hb h h'
  unfold spec_l01Floor.f
  rw [if_neg (by omega), if_neg (by omega)]
  by_cases c : Int.tmod a b < 0
  · have := h1.1 c
    rw [if_pos c, w64 (n := Int.tdiv a b) (by omega) (by omega), w64 (by omega) (by omega), this]
  · have := h1.2 c
    rw [if_neg c, w64 (by omega) (by omega), this]

/-! ### fractions -/
theorem mx_max (a b : Int) : mx a b = max a b := by unfold mx; omega
def gc (a b : Int) : Int := (a.natAbs.gcd b.natAbs : Nat)
theorem gcd_step {a b : Int} (ha : 0 ≤ a) (hb : 0 < b) : gc b (Int.tmod a b) = gc a b := by
  unfold gc
  rw [Int.tmod_eq_emod_of_nonneg ha, Nat.gcd_comm a.natAbs, Nat.gcd_rec b.natAbs a.natAbs, Nat.gcd_comm (a.natAbs % b.natAbs)]
  have e : (a % b).natAbs = a.natAbs % b.natAbs := by
    obtain ⟨m, rfl⟩ := Int.eq_ofNat_of_zero_le ha
    obtain ⟨n, rfl⟩ := Int.eq_ofNat_of_zero_le (show 0 ≤ b by omega)
    rw [← Int.natCast_emod]; simp only [Int.natAbs_natCast]
  rw [e]
theorem gcd_zero {a : Int} (ha : 0 ≤ a) : gc a 0 = a := by unfold gc; simp; omega
theorem spec_l01Gcd_l0 : ∀ (n : Nat) (a b : Int), b = n → 0 ≤ a → Ev (fun k => spec_l01Gcd.l0 k a b) (gc a b) := by
  intro n
  induction n using Nat.strongRecOn with
  | ind n ih =>
    intro a b hb ha
    by_cases h : b = 0
    · subst h
      exact Ev.step (fun k => spec_l01Gcd.l0.eq_2 ..) (ev_pos rfl (ev_ret (gcd_zero ha).symm))
    · have h1 := Int.emod_lt_of_pos a (show 0 < b by omega)
      have h2 := Int.emod_nonneg a h
      have h3 := Int.tmod_eq_emod_of_nonneg (b := b) ha
      have := ih (Int.tmod a b).toNat (by omega) b (Int.tmod a b) (by omega) (by omega)
      rw [gcd_step ha (by omega)] at this
      exact Ev.step (fun k => spec_l01Gcd.l0.eq_2 ..) (ev_neg h this)
theorem impl_divisor_l0 : ∀ (n : Nat) (a b : Int), b = n → 0 ≤ a → Ev (fun k => impl_divisor.l0 k a b) (gc a b) := by
  intro n
  induction n using Nat.strongRecOn with
  | ind n ih =>
    intro a b hb ha
    by_cases h : b = 0
    · subst h
      exact Ev.step (fun k => impl_divisor.l0.eq_2 ..) (ev_pos rfl (ev_ret (gcd_zero ha).symm))
    · have h1 := Int.emod_lt_of_pos a (show 0 < b by omega)
      have h2 := Int.emod_nonneg a h
      have h3 := Int.tmod_eq_emod_of_nonneg (b := b) ha
      have := ih (Int.tmod a b).toNat (by omega) b (Int.tmod a b) (by omega) (by omega)
      rw [gcd_step ha (by omega)] at this
      exact Ev.step (fun k => impl_divisor.l0.eq_2 ..) (ev_neg h this)
theorem gc_abs (a b : Int) : gc (max a (-a)) b = gc a b := by unfold gc; congr 2; omega
theorem gc_abs2 (a b : Int) : gc a (max b (-b)) = gc a b := by unfold gc; congr 2; omega
theorem l01Abs_eq {a : Int} (h : -4611686018427387904 ≤ a) (h' : a ≤ 4611686018427387904) : spec_l01Abs.f a = some (max a (-a)) := by
  unfold spec_l01Abs.f; rw [w64 (by omega) (by omega), mx_max]
theorem abs_eq {a : Int} (h : -4611686018427387904 ≤ a) (h' : a ≤ 4611686018427387904) : impl_abs.f a = some (max a (-a)) := by
  unfold impl_abs.f
  by_cases g : a < 0
  · rw [if_pos g, w64 (by omega) (by omega)]; congr 1; omega
  · rw [if_neg g]; congr 1; omega
theorem l01Gcd_ev {a b : Int} (h : -4611686018427387904 ≤ a) (h' : a ≤ 4611686018427387904) (k : -4611686018427387904 ≤ b) (k' : b ≤ 4611686018427387904) : Ev (fun k => spec_l01Gcd.f k a b) (gc a b) := by
  have e := spec_l01Gcd_l0 (max b (-b)).toNat (max a (-a)) (max b (-b)) (by omega) (by omega)
  rw [gc_abs, gc_abs2] at e
  exact ev_bind0 (l01Abs_eq h h') (ev_bind0 (l01Abs_eq k k') e)
theorem divisor_ev {a b : Int} (ha : 0 ≤ a) (hb : 0 ≤ b) : Ev (fun k => impl_divisor.f k a b) (gc a b) := impl_divisor_l0 b.toNat a b (by omega) ha
/-- is it a fraction? -/
def RatioB (n d : Int) : Bool := decide (-1000000000 ≤ n ∧ n ≤ 1000000000) && decide (1 ≤ d ∧ d ≤ 1000000000) && (gc n d == 1)
theorem ratioB_true {n d : Int} (h : RatioB n d = true) : (-1000000000 ≤ n ∧ n ≤ 1000000000) ∧ (1 ≤ d ∧ d ≤ 1000000000) ∧ gc n d = 1 := by
  unfold RatioB at h
  simp only [Bool.and_eq_true, decide_eq_true_eq, beq_iff_eq] at h
  exact ⟨h.1.1, h.1.2, h.2⟩
theorem spec_IsRatio_ev (n d : Int) : Ev (fun k => spec_IsRatio.f k n d) (RatioB n d) := by
  unfold spec_IsRatio.f RatioB
  simp only [in_eq, Option.bind_some]
  by_cases a : -1000000000 ≤ n ∧ n ≤ 1000000000
  · refine ev_pos (by simpa using a) ?_
    by_cases b : 1 ≤ d ∧ d ≤ 1000000000
    · refine ev_pos (by simpa using b) ?_
      refine (l01Gcd_ev (by omega) (by omega) (by omega) (by omega)).bind (ev_ret ?_)
      simp [a, b]
    · exact ev_neg (by simpa using b) (ev_ret (by simp [b]))
  · exact ev_neg (by simpa using a) (ev_ret (by simp [a]))
theorem impl_IsRatio_ev (n d : Int) : Ev (fun k => impl_IsRatio.f k n d) (RatioB n d) := by
  unfold impl_IsRatio.f RatioB
  simp only [within_eq, Option.bind_some]
  by_cases a : -1000000000 ≤ n ∧ n ≤ 1000000000
  · refine ev_pos (by simpa using a) ?_
    by_cases b : 1 ≤ d ∧ d ≤ 1000000000
    · refine ev_pos (by simpa using b) ?_
      have e := divisor_ev (a := max n (-n)) (b := d) (by omega) (by omega)
      rw [gc_abs] at e
      refine ev_bind0 (abs_eq (by omega) (by omega)) (e.bind (ev_ret ?_))
      simp [a, b]
    · exact ev_neg (by simpa using b) (ev_ret (by simp [b]))
  · exact ev_neg (by simpa using a) (ev_ret (by simp [a]))

theorem prod_bound {x y A B : Int} (h : -A ≤ x) (h' : x ≤ A) (k : -B ≤ y) (k' : y ≤ B) (hA : 0 ≤ A) (hB : 0 ≤ B) : -(A * B) ≤ x * y ∧ x * y ≤ A * B := by
  have e1 := Int.mul_nonneg (show 0 ≤ A - x by omega) (show 0 ≤ B - y by omega)
  have e2 := Int.mul_nonneg (show 0 ≤ A + x by omega) (show 0 ≤ B + y by omega)
  have e3 := Int.mul_nonneg (show 0 ≤ A - x by omega) (show 0 ≤ B + y by omega)
  have e4 := Int.mul_nonneg (show 0 ≤ A + x by omega) (show 0 ≤ B - y by omega)
  rw [Int.sub_mul, Int.mul_sub, Int.mul_sub] at e1
  rw [Int.add_mul, Int.mul_add, Int.mul_add] at e2
  rw [Int.sub_mul, Int.mul_add, Int.mul_add] at e3
  rw [Int.add_mul, Int.mul_sub, Int.mul_sub] at e4
  omega
/-- -1, 0 or 1 -/
def cmpI (a b : Int) : Int := if a < b then -1 else if b < a then 1 else 0
def compareM (an ad bn bd : Int) : Int × Int := if RatioB an ad = true ∧ RatioB bn bd = true then (cmpI (an * bd) (bn * ad), 0) else (0, 1)
theorem cross_bound {an ad bn bd : Int} (h : RatioB an ad = true) (h' : RatioB bn bd = true) : (-1000000000000000000 ≤ an * bd ∧ an * bd ≤ 1000000000000000000) ∧ (-1000000000000000000 ≤ bn * ad ∧ bn * ad ≤ 1000000000000000000) ∧ (1 ≤ ad * bd ∧ ad * bd ≤ 1000000000000000000) := by
  obtain ⟨a, b, _⟩ := ratioB_true h
  obtain ⟨c, d, _⟩ := ratioB_true h'
  have e1 := prod_bound (x := an) (y := bd) (A := 1000000000) (B := 1000000000) (by omega) (by omega) (by omega) (by omega) (by omega) (by omega)
  have e2 := prod_bound (x := bn) (y := ad) (A := 1000000000) (B := 1000000000) (by omega) (by omega) (by omega) (by omega) (by omega) (by omega)
  have e3 := prod_bound (x := ad) (y := bd) (A := 1000000000) (B := 1000000000) (by omega) (by omega) (by omega) (by omega) (by omega) (by omega)
  have e4 := Int.mul_pos (show 0 < ad by omega) (show 0 < bd by omega)
  omega
def floorM (an ad n : Int) : Int × Int := if RatioB an ad = true then (if -1000000000 ≤ n ∧ n ≤ 1000000000 then (an * n / ad, 0) else (0, 2)) else (0, 1)
theorem impl_FloorRatio_ev (an ad n : Int) : Ev (fun k => impl_FloorRatio.f k an ad n) (floorM an ad n) := by
  unfold impl_FloorRatio.f floorM
  refine (impl_IsRatio_ev an ad).bind ?_
  simp only [within_eq, Option.bind_some]
  by_cases h : RatioB an ad = true
  · refine ev_pos h ?_
    rw [if_pos h]
    by_cases g : -1000000000 ≤ n ∧ n ≤ 1000000000
    · refine ev_pos (by simpa using g) ?_
      obtain ⟨a, b, _⟩ := ratioB_true h
      have e := prod_bound (x := an) (y := n) (A := 1000000000) (B := 1000000000) (by omega) (by omega) (by omega) (by omega) (by omega) (by omega)
      rw [w64 (by omega) (by omega), if_pos g]
      exact ev_bind0 (floorDiv_eq (by omega) (by omega) (by omega)) (Ev.now _)
    · exact ev_neg (by simpa using g) (ev_ret (by rw [if_neg g]))
  · exact ev_neg h (ev_ret (by rw [if_neg h]))
theorem spec_FloorRatio_ev (an ad n : Int) : Ev (fun k => spec_FloorRatio.f k an ad n) (floorM an ad n) := by
  unfold spec_FloorRatio.f floorM
  refine (spec_IsRatio_ev an ad).bind ?_
  simp only [in_eq, Option.bind_some]
  by_cases h : RatioB an ad = true
  · refine ev_pos h ?_
    rw [if_pos h]
    by_cases g : -1000000000 ≤ n ∧ n ≤ 1000000000
    · refine ev_pos (by simpa using g) ?_
      obtain ⟨a, b, _⟩ := ratioB_true h
      have e := prod_bound (x := n) (y := an) (A := 1000000000) (B := 1000000000) (by omega) (by omega) (by omega) (by omega) (by omega) (by omega)
      rw [w64 (by omega) (by omega), if_pos g, Int.mul_comm an n]
      exact ev_bind0 (floor_eq (by omega) (by omega) (by omega)) (Ev.now _)
    · exact ev_neg (by simpa using g) (ev_ret (by rw [if_neg g]))
  · exact ev_neg h (ev_ret (by rw [if_neg h]))

theorem pure (a b n : Int) : ∃ k, laws_FnExactFloorRatio.f k a b n = some true := by
  apply Ev.rounds
  unfold laws_FnExactFloorRatio.f laws_toRatio.f
  simp only [Option.bind_some]
  refine (spec_FloorRatio_ev a b n).bind ((impl_FloorRatio_ev a b n).bind ?_)
  simp only [if_true]
  exact Ev.now _
theorem walk (a b : Int) (_ : (Lit.int .i64 a).wf = true) (_ : (Lit.int .i64 b).wf = true) (n : Int) (_ : (Lit.int .i64 n).wf = true) (W : World) :
    Calls Try.prog 5 #[.agg #[.int .i64 a, .int .i64 b], .int .i64 n] W fun e w' => e = .returned (.bool true) ∧ Below W.heap.size W w' := by
  obtain ⟨k, h⟩ := pure a b n
  exact laws_FnExactFloorRatio.calls k a b n true W h

end Go.Proofs.Ytpkadlgnkcbcbaa.GoFnExactFloorRatio
