/- MultiplyRatios answers what the reference's answers, for all arguments; no condition. -/
import Derived.Test.YtpkadlgnkcbcbaaMa
import Derived.Test.YtpkadlgnkcbcbaaQFnExactMultiplyRatiosx
namespace Go.Proofs.Ytpkadlgnkcbcbaa.GoFnExactMultiplyRatios
open Go.RowKit Go.Proofs.Ytpkadlgnkcbcbaa.QFnExactMultiplyRatios Go.Proofs.YtpkadlgnkcbcbaaW.PrintWords Go.Proofs.YtpkadlgnkcbcbaaW.PrintLast Go.Proofs.Ytpkadlgnkcbcbaa.Ma
set_option linter.unusedVariables false
set_option linter.unusedSimpArgs false

/-! ### division, ranges -/
theorem in_eq (a b c : Int) : spec_l01In.f a b c = some (decide (b ≤ a ∧ a ≤ c)) := by
  unfold spec_l01In.f
  by_cases h : b ≤ a <;> simp [h]
theorem within_eq (a b c : Int) : impl_within.f a b c = some (decide (b ≤ a ∧ a ≤ c)) := by
  unfold impl_within.f
  by_cases h : b ≤ a <;> simp [h]
theorem tdiv_floor {a b : Int} (hb : 0 < b) : (Int.tmod a b < 0 → Int.tdiv a b - 1 = a / b) ∧ (¬ Int.tmod a b < 0 → Int.tdiv a b = a / b) := by
  have h1 := Int.tdiv_eq_ediv (a := a) (b := b)
  have h2 := Int.tmod_eq_emod (a := a) (b := b)
  have h3 := Int.emod_nonneg a (show b ≠ 0 by omega)
  have h4 := Int.emod_lt_of_pos a hb
  by_cases h : 0 ≤ a ∨ b ∣ a
  · rw [if_pos h] at h1 h2
    omega
  · rw [if_neg h] at h1 h2
    rw [Int.sign_eq_one_of_pos hb] at h1
    omega
theorem ediv_small {a b : Int} (hb : 0 < b) (h : -4611686018427387904 ≤ a) (h' : a ≤ 4611686018427387904) : -4611686018427387904 ≤ a / b ∧ a / b ≤ 4611686018427387904 := by
  have h1 : -4611686018427387904 * b ≤ a := by
    have := Int.mul_le_mul_of_nonneg_left (show 1 ≤ b by omega) (show (0 : Int) ≤ 4611686018427387904 by omega); omega
  have h2 : a < (4611686018427387904 + 1) * b := by
    have := Int.mul_le_mul_of_nonneg_left (show 1 ≤ b by omega) (show (0 : Int) ≤ 4611686018427387905 by omega); omega
  have h3 := (Int.le_ediv_iff_mul_le hb).2 h1
  have h4 := (Int.ediv_lt_iff_lt_mul hb).2 h2
  omega
/-! ### fractions -/
theorem mx_max (a b : Int) : mx a b = max a b := by unfold mx; omega
def gc (a b : Int) : Int := (a.natAbs.gcd b.natAbs : Nat)
theorem gcd_step {a b : Int} (ha : 0 ≤ a) (hb : 0 < b) : gc b (Int.tmod a b) = gc a b := by
  unfold gc
  rw [Int.tmod_eq_emod_of_nonneg ha, Nat.gcd_comm a.natAbs, Nat.gcd_rec b.natAbs a.natAbs, Nat.gcd_comm (a.natAbs % b.natAbs)]
  have e : (a % b).natAbs = a.natAbs % b.natAbs := by
    obtain ⟨m, rfl⟩ := Int.eq_ofNat_of_zero_le ha
    obtain ⟨n, rfl⟩ := Int.eq_ofNat_of_zero_le (show 0 ≤ b by omega)
    rw [← Int.natCast_emod]; simp only [Int.natAbs_natCast]
  rw [e]
theorem gcd_zero {a : Int} (ha : 0 ≤ a) : gc a 0 = a := by unfold gc; simp; omega
theorem spec_l01Gcd_l0 : ∀ (n : Nat) (a b : Int), b = n → 0 ≤ a → Ev (fun k => spec_l01Gcd.l0 k a b) (gc a b) := by
  intro n
  induction n using Nat.strongRecOn with
  | ind n ih =>
    intro a b hb ha
    by_cases h : b = 0
    · subst h
      exact Ev.step (fun k => spec_l01Gcd.l0.eq_2 ..) (ev_pos rfl (ev_ret (gcd_zero ha).symm))
    · have h1 := Int.emod_lt_of_pos a (show 0 < b by omega)
      have h2 := Int.emod_nonneg a h
      have h3 := Int.tmod_eq_emod_of_nonneg (b := b) ha
      have := ih (Int.tmod a b).toNat (by omega) b (Int.tmod a b) (by omega) (by omega)
      rw [gcd_step ha (by omega)] at this
      exact Ev.step (fun k => spec_l01Gcd.l0.eq_2 ..) (ev_neg h this)
theorem impl_divisor_l0 : ∀ (n : Nat) (a b : Int), b = n → 0 ≤ a → Ev (fun k => impl_divisor.l0 k a b) (gc a b) := by
  intro n
  induction n using Nat.strongRecOn with
  | ind n ih =>
    intro a b hb ha
    by_cases h : b = 0
    · subst h
      exact Ev.step (fun k => impl_divisor.l0.eq_2 ..) (ev_pos rfl (ev_ret (gcd_zero ha).symm))
    · have h1 := Int.emod_lt_of_pos a (show 0 < b by omega)
      have h2 := Int.emod_nonneg a h
      have h3 := Int.tmod_eq_emod_of_nonneg (b := b) ha
      have := ih (Int.tmod a b).toNat (by omega) b (Int.tmod a b) (by omega) (by omega)
      rw [gcd_step ha (by omega)] at this
      exact Ev.step (fun k => impl_divisor.l0.eq_2 ..) (ev_neg h this)
theorem gc_abs (a b : Int) : gc (max a (-a)) b = gc a b := by unfold gc; congr 2; omega
theorem gc_abs2 (a b : Int) : gc a (max b (-b)) = gc a b := by unfold gc; congr 2; omega
theorem l01Abs_eq {a : Int} (h : -4611686018427387904 ≤ a) (h' : a ≤ 4611686018427387904) : spec_l01Abs.f a = some (max a (-a)) := by
  unfold spec_l01Abs.f; rw [w64 (by omega) (by omega), mx_max]
theorem abs_eq {a : Int} (h : -4611686018427387904 ≤ a) (h' : a ≤ 4611686018427387904) : impl_abs.f a = some (max a (-a)) := by
  unfold impl_abs.f
  by_cases g : a < 0
  · rw [if_pos g, w64 (by omega) (by omega)]; congr 1; omega
  · rw [if_neg g]; congr 1; omega
theorem l01Gcd_ev {a b : Int} (h : -4611686018427387904 ≤ a) (h' : a ≤ 4611686018427387904) (k : -4611686018427387904 ≤ b) (k' : b ≤ 4611686018427387904) : Ev (fun k => spec_l01Gcd.f k a b) (gc a b) := by
  have e := spec_l01Gcd_l0 (max b (-b)).toNat (max a (-a)) (max b (-b)) (by omega) (by omega)
  rw [gc_abs, gc_abs2] at e
  exact ev_bind0 (l01Abs_eq h h') (ev_bind0 (l01Abs_eq k k') e)
theorem divisor_ev {a b : Int} (ha : 0 ≤ a) (hb : 0 ≤ b) : Ev (fun k => impl_divisor.f k a b) (gc a b) := impl_divisor_l0 b.toNat a b (by omega) ha
/-- is it a fraction? -/
def RatioB (n d : Int) : Bool := decide (-1000000000 ≤ n ∧ n ≤ 1000000000) && decide (1 ≤ d ∧ d ≤ 1000000000) && (gc n d == 1)
theorem ratioB_true {n d : Int} (h : RatioB n d = true) : (-1000000000 ≤ n ∧ n ≤ 1000000000) ∧ (1 ≤ d ∧ d ≤ 1000000000) ∧ gc n d = 1 := by
  unfold RatioB at h
  simp only [Bool.and_eq_true, decide_eq_true_eq, beq_iff_eq] at h
  exact ⟨h.1.1, h.1.2, h.2⟩
theorem spec_IsRatio_ev (n d : Int) : Ev (fun k => spec_IsRatio.f k n d) (RatioB n d) := by
  unfold spec_IsRatio.f RatioB
  simp only [in_eq, Option.bind_some]
  by_cases a : -1000000000 ≤ n ∧ n ≤ 1000000000
  · refine ev_pos (by simpa using a) ?_
    by_cases b : 1 ≤ d ∧ d ≤ 1000000000
    · refine ev_pos (by simpa using b) ?_
      refine (l01Gcd_ev (by omega) (by omega) (by omega) (by omega)).bind (ev_ret ?_)
      simp [a, b]
    · exact ev_neg (by simpa using b) (ev_ret (by simp [b]))
  · exact ev_neg (by simpa using a) (ev_ret (by simp [a]))
theorem impl_IsRatio_ev (n d : Int) : Ev (fun k => impl_IsRatio.f k n d) (RatioB n d) := by
  unfold impl_IsRatio.f RatioB
  simp only [within_eq, Option.bind_some]
  by_cases a : -1000000000 ≤ n ∧ n ≤ 1000000000
  · refine ev_pos (by simpa using a) ?_
    by_cases b : 1 ≤ d ∧ d ≤ 1000000000
    · refine ev_pos (by simpa using b) ?_
      have e := divisor_ev (a := max n (-n)) (b := d) (by omega) (by omega)
      rw [gc_abs] at e
      refine ev_bind0 (abs_eq (by omega) (by omega)) (e.bind (ev_ret ?_))
      simp [a, b]
    · exact ev_neg (by simpa using b) (ev_ret (by simp [b]))
  · exact ev_neg (by simpa using a) (ev_ret (by simp [a]))

theorem tdiv_small {a b : Int} (h : -4611686018427387904 ≤ a) (h' : a ≤ 4611686018427387904) : -4611686018427387904 ≤ Int.tdiv a b ∧ Int.tdiv a b ≤ 4611686018427387904 := by
  have := Int.natAbs_tdiv_le_natAbs a b
  omega
theorem gc_pos {a b : Int} (hb : b ≠ 0) : 0 < gc a b := by
  unfold gc
  have := Nat.gcd_pos_of_pos_right a.natAbs (show 0 < b.natAbs by omega)
  omega
/-- a quotient, brought to its lowest terms; the denominator is greater than 0 -/
def mkP (n d : Int) : Int × Int × Int := if RatioB (Int.tdiv n (gc n d)) (Int.tdiv d (gc n d)) = true then (Int.tdiv n (gc n d), Int.tdiv d (gc n d), 0) else (0, 0, 3)
def mkR (n d : Int) : Int × Int × Int := if d < 0 then mkP (-n) (-d) else mkP n d
theorem spec_l02Make_j0 {n d : Int} (h : -4611686018427387904 ≤ n) (h' : n ≤ 4611686018427387904) (k : 0 < d) (k' : d ≤ 4611686018427387904) : Ev (fun k => spec_l02Make.j0 k n d) (mkP n d) := by
  have g := gc_pos (a := n) (b := d) (by omega)
  have t1 := tdiv_small (b := gc n d) h h'
  have t2 := tdiv_small (a := d) (b := gc n d) (by omega) k'
  refine Ev.step (fun k => spec_l02Make.j0.eq_2 ..) ((l01Gcd_ev h h' (by omega) k').bind (ev_neg (by omega) ?_))
  rw [w64 (n := Int.tdiv n (gc n d)) (by omega) (by omega), w64 (n := Int.tdiv d (gc n d)) (by omega) (by omega)]
  refine (spec_IsRatio_ev _ _).bind ?_
  unfold mkP
  by_cases c : RatioB (Int.tdiv n (gc n d)) (Int.tdiv d (gc n d)) = true
  · exact ev_pos c (ev_ret (by rw [if_pos c]))
  · exact ev_neg c (ev_ret (by rw [if_neg c]))
theorem spec_l02Make_ev {n d : Int} (h : -4611686018427387904 ≤ n) (h' : n ≤ 4611686018427387904) (k : -4611686018427387904 ≤ d) (k' : d ≤ 4611686018427387904) (hd : d ≠ 0) : Ev (fun k => spec_l02Make.f k n d) (mkR n d) := by
  unfold spec_l02Make.f mkR
  by_cases c : d < 0
  · refine ev_pos c ?_
    rw [w64 (by omega) (by omega), w64 (by omega) (by omega), if_pos c]
    exact spec_l02Make_j0 (by omega) (by omega) (by omega) (by omega)
  · refine ev_neg c ?_
    rw [if_neg c]
    exact spec_l02Make_j0 h h' (by omega) k'
theorem impl_reduced_j0 {n d : Int} (h : -4611686018427387904 ≤ n) (h' : n ≤ 4611686018427387904) (k : 0 < d) (k' : d ≤ 4611686018427387904) : Ev (fun k => impl_reduced.j0 k n d) (mkP n d) := by
  have g := gc_pos (a := n) (b := d) (by omega)
  have t1 := tdiv_small (b := gc n d) h h'
  have t2 := tdiv_small (a := d) (b := gc n d) (by omega) k'
  have e := divisor_ev (a := max n (-n)) (b := d) (by omega) (by omega)
  rw [gc_abs] at e
  refine Ev.step (fun k => impl_reduced.j0.eq_2 ..) (ev_bind0 (abs_eq h h') (e.bind (ev_neg (by omega) ?_)))
  rw [w64 (n := Int.tdiv n (gc n d)) (by omega) (by omega), w64 (n := Int.tdiv d (gc n d)) (by omega) (by omega)]
  refine (impl_IsRatio_ev _ _).bind ?_
  unfold mkP
  by_cases c : RatioB (Int.tdiv n (gc n d)) (Int.tdiv d (gc n d)) = true
  · exact ev_pos c (ev_ret (by rw [if_pos c]))
  · exact ev_neg c (ev_ret (by rw [if_neg c]))
theorem impl_reduced_ev {n d : Int} (h : -4611686018427387904 ≤ n) (h' : n ≤ 4611686018427387904) (k : -4611686018427387904 ≤ d) (k' : d ≤ 4611686018427387904) (hd : d ≠ 0) : Ev (fun k => impl_reduced.f k n d) (mkR n d) := by
  unfold impl_reduced.f mkR
  by_cases c : d < 0
  · refine ev_pos c ?_
    rw [w64 (by omega) (by omega), w64 (by omega) (by omega), if_pos c]
    exact impl_reduced_j0 (by omega) (by omega) (by omega) (by omega)
  · refine ev_neg c ?_
    rw [if_neg c]
    exact impl_reduced_j0 h h' (by omega) k'

theorem prod_bound {x y A B : Int} (h : -A ≤ x) (h' : x ≤ A) (k : -B ≤ y) (k' : y ≤ B) (hA : 0 ≤ A) (hB : 0 ≤ B) : -(A * B) ≤ x * y ∧ x * y ≤ A * B := by
  have e1 := Int.mul_nonneg (show 0 ≤ A - x by omega) (show 0 ≤ B - y by omega)
  have e2 := Int.mul_nonneg (show 0 ≤ A + x by omega) (show 0 ≤ B + y by omega)
  have e3 := Int.mul_nonneg (show 0 ≤ A - x by omega) (show 0 ≤ B + y by omega)
  have e4 := Int.mul_nonneg (show 0 ≤ A + x by omega) (show 0 ≤ B - y by omega)
  rw [Int.sub_mul, Int.mul_sub, Int.mul_sub] at e1
  rw [Int.add_mul, Int.mul_add, Int.mul_add] at e2
  rw [Int.sub_mul, Int.mul_add, Int.mul_add] at e3
  rw [Int.add_mul, Int.mul_sub, Int.mul_sub] at e4
  omega
/-- -1, 0 or 1 -/
def cmpI (a b : Int) : Int := if a < b then -1 else if b < a then 1 else 0
def compareM (an ad bn bd : Int) : Int × Int := if RatioB an ad = true ∧ RatioB bn bd = true then (cmpI (an * bd) (bn * ad), 0) else (0, 1)
theorem cross_bound {an ad bn bd : Int} (h : RatioB an ad = true) (h' : RatioB bn bd = true) : (-1000000000000000000 ≤ an * bd ∧ an * bd ≤ 1000000000000000000) ∧ (-1000000000000000000 ≤ bn * ad ∧ bn * ad ≤ 1000000000000000000) ∧ (1 ≤ ad * bd ∧ ad * bd ≤ 1000000000000000000) := by
  obtain ⟨a, b, _⟩ := ratioB_true h
  obtain ⟨c, d, _⟩ := ratioB_true h'
  have e1 := prod_bound (x := an) (y := bd) (A := 1000000000) (B := 1000000000) (by omega) (by omega) (by omega) (by omega) (by omega) (by omega)
  have e2 := prod_bound (x := bn) (y := ad) (A := 1000000000) (B := 1000000000) (by omega) (by omega) (by omega) (by omega) (by omega) (by omega)
  have e3 := prod_bound (x := ad) (y := bd) (A := 1000000000) (B := 1000000000) (by omega) (by omega) (by omega) (by omega) (by omega) (by omega)
  have e4 := Int.mul_pos (show 0 < ad by omega) (show 0 < bd by omega)
  omega
def addM (an ad bn bd : Int) : Int × Int × Int := if RatioB an ad = true ∧ RatioB bn bd = true then mkR (an * bd + bn * ad) (ad * bd) else (0, 0, 1)
def mulM (an ad bn bd : Int) : Int × Int × Int := if RatioB an ad = true ∧ RatioB bn bd = true then mkR (an * bn) (ad * bd) else (0, 0, 1)
theorem num_bound {an ad bn bd : Int} (h : RatioB an ad = true) (h' : RatioB bn bd = true) : -1000000000000000000 ≤ an * bn ∧ an * bn ≤ 1000000000000000000 := by
  obtain ⟨a, b, _⟩ := ratioB_true h
  obtain ⟨c, d, _⟩ := ratioB_true h'
  have e1 := prod_bound (x := an) (y := bn) (A := 1000000000) (B := 1000000000) (by omega) (by omega) (by omega) (by omega) (by omega) (by omega)
  omega
theorem impl_MultiplyRatios_ev (an ad bn bd : Int) : Ev (fun k => impl_MultiplyRatios.f k an ad bn bd) (mulM an ad bn bd) := by
  unfold impl_MultiplyRatios.f mulM
  refine (impl_IsRatio_ev an ad).bind ?_
  by_cases h : RatioB an ad = true
  · refine ev_pos h ((impl_IsRatio_ev bn bd).bind ?_)
    by_cases h' : RatioB bn bd = true
    · refine ev_pos h' ?_
      obtain ⟨a, b, c⟩ := cross_bound h h'
      have e := num_bound h h'
      rw [w64 (by omega) (by omega), w64 (by omega) (by omega), if_pos ⟨h, h'⟩]
      exact (impl_reduced_ev (by omega) (by omega) (by omega) (by omega) (by omega)).bind (Ev.now _)
    · exact ev_neg h' (ev_ret (by rw [if_neg (by simp [h'])]))
  · exact ev_neg h (ev_ret (by rw [if_neg (by simp [h])]))
theorem spec_MultiplyRatios_ev (an ad bn bd : Int) : Ev (fun k => spec_MultiplyRatios.f k an ad bn bd) (mulM an ad bn bd) := by
  unfold spec_MultiplyRatios.f mulM
  refine (spec_IsRatio_ev an ad).bind ?_
  by_cases h : RatioB an ad = true
  · refine ev_pos h ((spec_IsRatio_ev bn bd).bind ?_)
    by_cases h' : RatioB bn bd = true
    · refine ev_pos h' ?_
      obtain ⟨a, b, c⟩ := cross_bound h h'
      have e := num_bound h h'
      rw [w64 (by omega) (by omega), w64 (by omega) (by omega), if_pos ⟨h, h'⟩]
      exact (spec_l02Make_ev (by omega) (by omega) (by omega) (by omega) (by omega)).bind (Ev.now _)
    · exact ev_neg h' (ev_ret (by rw [if_neg (by simp [h'])]))
  · exact ev_neg h (ev_ret (by rw [if_neg (by simp [h])]))

theorem pure (a b c d : Int) : ∃ k, laws_FnExactMultiplyRatios.f k a b c d = some true := by
  apply Ev.rounds
  unfold laws_FnExactMultiplyRatios.f laws_toRatio.f laws_eqRatio.f
  simp only [Option.bind_some]
  refine (spec_MultiplyRatios_ev a b c d).bind ((impl_MultiplyRatios_ev a b c d).bind ?_)
  simp only [if_true, Option.bind_some]
  exact Ev.now _
theorem walk (a b : Int) (_ : (Lit.int .i64 a).wf = true) (_ : (Lit.int .i64 b).wf = true) (c d : Int) (_ : (Lit.int .i64 c).wf = true) (_ : (Lit.int .i64 d).wf = true) (W : World) :
    Calls Try.prog 8 #[.agg #[.int .i64 a, .int .i64 b], .agg #[.int .i64 c, .int .i64 d]] W fun e w' => e = .returned (.bool true) ∧ Below W.heap.size W w' := by
  obtain ⟨k, h⟩ := pure a b c d
  exact laws_FnExactMultiplyRatios.calls k a b c d true W h ⟨rfl⟩

end Go.Proofs.Ytpkadlgnkcbcbaa.GoFnExactMultiplyRatios
