/- RatioText answers what the reference's answers, for all arguments; no condition. -/
import Derived.Test.YtpkadlgnkcbcbaaMa
import Derived.Test.YtpkadlgnkcbcbaaQFnExactRatioTextx
namespace Go.Proofs.Ytpkadlgnkcbcbaa.GoFnExactRatioText
open Go.RowKit Go.Proofs.Ytpkadlgnkcbcbaa.QFnExactRatioText Go.Proofs.YtpkadlgnkcbcbaaW.PrintWords Go.Proofs.YtpkadlgnkcbcbaaW.PrintLast Go.Proofs.Ytpkadlgnkcbcbaa.Ma
set_option linter.unusedVariables false
set_option linter.unusedSimpArgs false

/-! ### numbers in decimal -/
def numL (n : Int) : List Int := if n < 0 then 45 :: dec (-n).toNat else dec n.toNat
theorem numL_pos {n : Int} (h : 0 ≤ n) : numL n = dec n.toNat := by unfold numL; rw [if_neg (by omega)]
theorem numL_neg {n : Int} (h : n < 0) : numL n = 45 :: dec (-n).toNat := by unfold numL; rw [if_pos h]
theorem sz_bo {s : ByteArray} {l : List Int} (h : bytesOf s = l) : s.size = l.length := by rw [← h, bytesOf_length]
theorem byte_dig {c : Int} (h : Dig c) : byte c := by unfold Dig at h; unfold byte; omega
theorem bo_one {c : Int} (h : byte c) : bytesOf (strOfNums [c]) = [c] := bo_of _ (fun x hx => by simp only [List.mem_singleton] at hx; subst hx; exact h)
theorem bo_lit (l : List UInt8) : bytesOf ⟨l.toArray⟩ = l.map fun b => (b.toNat : Int) := rfl
theorem pow_int (k : Nat) : ((10 ^ k : Nat) : Int) = (10 : Int) ^ k := by simp
theorem dec_len_le' {n : Int} {k : Nat} (h0 : 0 ≤ n) (h : n < 10 ^ (k + 1)) : (dec n.toNat).length ≤ k + 1 := by
  refine dec_len_le k n.toNat ?_
  have := pow_int (k + 1)
  omega
/-- the byte of the last digit -/
theorem dig_byte {n : Int} (h : 0 ≤ n) : (wrap64 (48 + (Int.tmod n 10))) % 256 = 48 + n % 10 := by
  rw [Int.tmod_eq_emod_of_nonneg h, w64 (by omega) (by omega)]; omega
theorem impl_decimal_l0 : ∀ (d : Nat) (n : Int) (x : ByteArray), 0 ≤ n → n < 10 ^ (d + 1) → n ≤ 9223372036854775807 → x.size + d ≤ 4611686018427387904 → ∃ r, Ev (fun k => impl_decimal.l0 k n x) r ∧ bytesOf r = dec n.toNat ++ bytesOf x := by
  intro d
  induction d with
  | zero =>
    intro n x h0 h1 h2 h3
    have hb : bytesOf (strOfNums [48 + n % 10]) = [48 + n % 10] := bo_one (by unfold byte; omega)
    have hs := sz_bo hb
    refine ⟨strOfNums [48 + n % 10] ++ x, Ev.step (fun k => impl_decimal.l0.eq_2 ..) (ev_bind0 rfl ?_), ?_⟩
    · rw [dig_byte h0, Int.tdiv_eq_ediv_of_nonneg h0, w64 (by omega) (by omega)]
      simp only [List.length_singleton] at hs
      exact ev_pos (by omega) (ev_pos (by omega) (Ev.now _))
    · rw [bo_app, hb, dec_small (by omega)]
      congr 2; omega
  | succ d ih =>
    intro n x h0 h1 h2 h3
    have hb : bytesOf (strOfNums [48 + n % 10]) = [48 + n % 10] := bo_one (by unfold byte; omega)
    have hs := sz_bo hb
    simp only [List.length_singleton] at hs
    by_cases g : n / 10 = 0
    · refine ⟨strOfNums [48 + n % 10] ++ x, Ev.step (fun k => impl_decimal.l0.eq_2 ..) (ev_bind0 rfl ?_), ?_⟩
      · rw [dig_byte h0, Int.tdiv_eq_ediv_of_nonneg h0, w64 (by omega) (by omega)]
        exact ev_pos (by omega) (ev_pos g (Ev.now _))
      · rw [bo_app, hb, dec_small (by omega)]
        congr 2; omega
    · obtain ⟨r, hr, e⟩ := ih (n / 10) (strOfNums [48 + n % 10] ++ x) (by omega) (by rw [Int.pow_succ] at h1; omega) (by omega) (by rw [ByteArray.size_append]; omega)
      refine ⟨r, Ev.step (fun k => impl_decimal.l0.eq_2 ..) (ev_bind0 rfl ?_), ?_⟩
      · rw [dig_byte h0, Int.tdiv_eq_ediv_of_nonneg h0, w64 (by omega) (by omega)]
        exact ev_pos (by omega) (ev_neg g hr)
      · rw [e, bo_app, hb, dec_big (n := n.toNat) (by omega), show n.toNat / 10 = (n / 10).toNat by omega, show ((n.toNat % 10 : Nat) : Int) = n % 10 by omega]
        simp
theorem impl_decimal_nn {n : Int} (h0 : 0 ≤ n) (h1 : n ≤ 1000000000000000000) : ∃ r, Ev (fun k => impl_decimal.f k n) r ∧ bytesOf r = dec n.toNat := by
  obtain ⟨r, hr, e⟩ := impl_decimal_l0 18 n ⟨#[]⟩ h0 (by omega) (by omega) (by decide)
  refine ⟨r, Ev.step (fun k => impl_decimal.f.eq_2 ..) (ev_neg (by omega) hr), ?_⟩
  rw [e, bo_nil]; simp
theorem impl_decimal_ev {n : Int} (h0 : -1000000000000000000 ≤ n) (h1 : n ≤ 1000000000000000000) : ∃ r, Ev (fun k => impl_decimal.f k n) r ∧ bytesOf r = numL n := by
  by_cases g : n < 0
  · obtain ⟨r, hr, e⟩ := impl_decimal_nn (n := -n) (by omega) (by omega)
    have hl := dec_len_le' (n := -n) (k := 18) (by omega) (by omega)
    have hs := sz_bo e
    refine ⟨(⟨#[45]⟩ : ByteArray) ++ r, Ev.step (fun k => impl_decimal.f.eq_2 ..) (ev_pos g ?_), ?_⟩
    · rw [w64 (by omega) (by omega)]
      exact hr.bind (ev_pos (by omega) (Ev.now _))
    · rw [bo_app, e, numL_neg g]; rfl
  · obtain ⟨r, hr, e⟩ := impl_decimal_nn (n := n) (by omega) h1
    exact ⟨r, hr, by rw [e, numL_pos (by omega)]⟩
theorem spec_l01Dec_d : ∀ (d : Nat) (n : Int), 0 ≤ n → n < 10 ^ (d + 1) → n ≤ 9223372036854775807 → d ≤ 1000 → ∃ r, Ev (fun k => spec_l01Dec.f k n) r ∧ bytesOf r = dec n.toNat := by
  intro d
  induction d with
  | zero =>
    intro n h0 h1 h2 _
    have hb : bytesOf (strOfNums [48 + n]) = [48 + n] := bo_one (by unfold byte; omega)
    refine ⟨strOfNums [48 + n], Ev.step (fun k => spec_l01Dec.f.eq_2 ..) (ev_pos (by omega) (ev_ret ?_)), ?_⟩
    · rw [w64 (by omega) (by omega), show (48 + n) % 256 = 48 + n by omega]
    · rw [hb, dec_small (by omega)]
      congr 2; omega
  | succ d ih =>
    intro n h0 h1 h2 hd
    by_cases g : n < 10
    · have hb : bytesOf (strOfNums [48 + n]) = [48 + n] := bo_one (by unfold byte; omega)
      refine ⟨strOfNums [48 + n], Ev.step (fun k => spec_l01Dec.f.eq_2 ..) (ev_pos g (ev_ret ?_)), ?_⟩
      · rw [w64 (by omega) (by omega), show (48 + n) % 256 = 48 + n by omega]
      · rw [hb, dec_small (by omega)]
        congr 2; omega
    · have hb : bytesOf (strOfNums [48 + n % 10]) = [48 + n % 10] := bo_one (by unfold byte; omega)
      have hs := sz_bo hb
      simp only [List.length_singleton] at hs
      obtain ⟨r, hr, e⟩ := ih (n / 10) (by omega) (by rw [Int.pow_succ] at h1; omega) (by omega) (by omega)
      have hl := dec_len_le' (n := n / 10) (k := d) (by omega) (by rw [Int.pow_succ] at h1; omega)
      have hsr := sz_bo e
      refine ⟨r ++ strOfNums [48 + n % 10], Ev.step (fun k => spec_l01Dec.f.eq_2 ..) (ev_neg g ?_), ?_⟩
      · rw [dig_byte h0, Int.tdiv_eq_ediv_of_nonneg h0, w64 (by omega) (by omega)]
        exact hr.bind (ev_bind0 rfl (ev_pos (by omega) (Ev.now _)))
      · rw [bo_app, e, hb, dec_big (n := n.toNat) (by omega), show n.toNat / 10 = (n / 10).toNat by omega, show ((n.toNat % 10 : Nat) : Int) = n % 10 by omega]
theorem spec_l01Dec_ev {n : Int} (h0 : 0 ≤ n) (h1 : n ≤ 1000000000000000000) : ∃ r, Ev (fun k => spec_l01Dec.f k n) r ∧ bytesOf r = dec n.toNat := spec_l01Dec_d 18 n h0 (by omega) (by omega) (by omega)
theorem spec_l01Number_ev {n : Int} (h0 : -1000000000000000000 ≤ n) (h1 : n ≤ 1000000000000000000) : ∃ r, Ev (fun k => spec_l01Number.f k n) r ∧ bytesOf r = numL n := by
  unfold spec_l01Number.f
  by_cases g : n < 0
  · obtain ⟨r, hr, e⟩ := spec_l01Dec_ev (n := -n) (by omega) (by omega)
    have hl := dec_len_le' (n := -n) (k := 18) (by omega) (by omega)
    have hs := sz_bo e
    refine ⟨(⟨#[45]⟩ : ByteArray) ++ r, ev_pos g ?_, ?_⟩
    · rw [w64 (by omega) (by omega)]
      exact hr.bind (ev_pos (by omega) (Ev.now _))
    · rw [bo_app, e, numL_neg g]; rfl
  · obtain ⟨r, hr, e⟩ := spec_l01Dec_ev (n := n) (by omega) h1
    exact ⟨r, ev_neg g (hr.bind (Ev.now _)), by rw [e, numL_pos (by omega)]⟩
theorem numL_len {n : Int} (h0 : -1000000000000000000 ≤ n) (h1 : n ≤ 1000000000000000000) : (numL n).length ≤ 20 := by
  by_cases g : n < 0
  · rw [numL_neg g]
    have hl := dec_len_le' (n := -n) (k := 18) (by omega) (by omega)
    simp; omega
  · rw [numL_pos (by omega)]
    have hl := dec_len_le' (n := n) (k := 18) (by omega) (by omega)
    omega

/-! ### division, ranges -/
theorem in_eq (a b c : Int) : spec_l01In.f a b c = some (decide (b ≤ a ∧ a ≤ c)) := by
  unfold spec_l01In.f
  by_cases h : b ≤ a <;> simp [h]
theorem within_eq (a b c : Int) : impl_within.f a b c = some (decide (b ≤ a ∧ a ≤ c)) := by
  unfold impl_within.f
  by_cases h : b ≤ a <;> simp [h]
theorem tdiv_floor {a b : Int} (hb : 0 < b) : (Int.tmod a b < 0 → Int.tdiv a b - 1 = a / b) ∧ (¬ Int.tmod a b < 0 → Int.tdiv a b = a / b) := by
  have h1 := Int.tdiv_eq_ediv (a := a) (b := b)
  have h2 := Int.tmod_eq_emod (a := a) (b := b)
  have h3 := Int.emod_nonneg a (show b ≠ 0 by omega)
  have h4 := Int.emod_lt_of_pos a hb
  by_cases h : 0 ≤ a ∨ b ∣ a
  · rw [if_pos h] at h1 h2
    omega
  · rw [if_neg h] at h1 h2
    rw [Int.sign_eq_one_of_pos hb] at h1
    omega
theorem ediv_small {a b : Int} (hb : 0 < b) (h : -4611686018427387904 ≤ a) (h' : a ≤ 4611686018427387904) : -4611686018427387904 ≤ a / b ∧ a / b ≤ 4611686018427387904 := by
  have h1 : -4611686018427387904 * b ≤ a := by
    have := Int.mul_le_mul_of_nonneg_left (show 1 ≤ b by omega) (show (0 : Int) ≤ 4611686018427387904 by omega); omega
  have h2 : a < (4611686018427387904 + 1) * b := by
    have := Int.mul_le_mul_of_nonneg_left (show 1 ≤ b by omega) (show (0 : Int) ≤ 4611686018427387905 by omega); omega
  have h3 := (Int.le_ediv_iff_mul_le hb).2 h1
  have h4 := (Int.ediv_lt_iff_lt_mul hb).2 h2
  omega
/-! ### fractions -/
theorem mx_max (a b : Int) : mx a b = max a b := by unfold mx; omega
def gc (a b : Int) : Int := (a.natAbs.gcd b.natAbs : Nat)
theorem gcd_step {a b : Int} (ha : 0 ≤ a) (hb : 0 < b) : gc b (Int.tmod a b) = gc a b := by
  unfold gc
  rw [Int.tmod_eq_emod_of_nonneg ha, Nat.gcd_comm a.natAbs, Nat.gcd_rec b.natAbs a.natAbs, Nat.gcd_comm (a.natAbs % b.natAbs)]
  have e : (a % b).natAbs = a.natAbs % b.natAbs := by
    obtain ⟨m, rfl⟩ := Int.eq_ofNat_of_zero_le ha
    obtain ⟨n, rfl⟩ := Int.eq_ofNat_of_zero_le (show 0 ≤ b by omega)
    rw [← Int.natCast_emod]; simp only [Int.natAbs_natCast]
  rw [e]
theorem gcd_zero {a : Int} (ha : 0 ≤ a) : gc a 0 = a := by unfold gc; simp; omega
theorem spec_l01Gcd_l0 : ∀ (n : Nat) (a b : Int), b = n → 0 ≤ a → Ev (fun k => spec_l01Gcd.l0 k a b) (gc a b) := by
  intro n
  induction n using Nat.strongRecOn with
  | ind n ih =>
    intro a b hb ha
    by_cases h : b = 0
    · subst h
      exact Ev.step (fun k => spec_l01Gcd.l0.eq_2 ..) (ev_pos rfl (ev_ret (gcd_zero ha).symm))
    · have h1 := Int.emod_lt_of_pos a (show 0 < b by omega)
      have h2 := Int.emod_nonneg a h
      have h3 := Int.tmod_eq_emod_of_nonneg (b := b) ha
      have := ih (Int.tmod a b).toNat (by omega) b (Int.tmod a b) (by omega) (by omega)
      rw [gcd_step ha (by omega)] at this
      exact Ev.step (fun k => spec_l01Gcd.l0.eq_2 ..) (ev_neg h this)
theorem impl_divisor_l0 : ∀ (n : Nat) (a b : Int), b = n → 0 ≤ a → Ev (fun k => impl_divisor.l0 k a b) (gc a b) := by
  intro n
  induction n using Nat.strongRecOn with
  | ind n ih =>
    intro a b hb ha
    by_cases h : b = 0
    · subst h
      exact Ev.step (fun k => impl_divisor.l0.eq_2 ..) (ev_pos rfl (ev_ret (gcd_zero ha).symm))
    · have h1 := Int.emod_lt_of_pos a (show 0 < b by omega)
      have h2 := Int.emod_nonneg a h
      have h3 := Int.tmod_eq_emod_of_nonneg (b := b) ha
      have := ih (Int.tmod a b).toNat (by omega) b (Int.tmod a b) (by omega) (by omega)
      rw [gcd_step ha (by omega)] at this
      exact Ev.step (fun k => impl_divisor.l0.eq_2 ..) (ev_neg h this)
theorem gc_abs (a b : Int) : gc (max a (-a)) b = gc a b := by unfold gc; congr 2; omega
theorem gc_abs2 (a b : Int) : gc a (max b (-b)) = gc a b := by unfold gc; congr 2; omega
theorem l01Abs_eq {a : Int} (h : -4611686018427387904 ≤ a) (h' : a ≤ 4611686018427387904) : spec_l01Abs.f a = some (max a (-a)) := by
  unfold spec_l01Abs.f; rw [w64 (by omega) (by omega), mx_max]
theorem abs_eq {a : Int} (h : -4611686018427387904 ≤ a) (h' : a ≤ 4611686018427387904) : impl_abs.f a = some (max a (-a)) := by
  unfold impl_abs.f
  by_cases g : a < 0
  · rw [if_pos g, w64 (by omega) (by omega)]; congr 1; omega
  · rw [if_neg g]; congr 1; omega
theorem l01Gcd_ev {a b : Int} (h : -4611686018427387904 ≤ a) (h' : a ≤ 4611686018427387904) (k : -4611686018427387904 ≤ b) (k' : b ≤ 4611686018427387904) : Ev (fun k => spec_l01Gcd.f k a b) (gc a b) := by
  have e := spec_l01Gcd_l0 (max b (-b)).toNat (max a (-a)) (max b (-b)) (by omega) (by omega)
  rw [gc_abs, gc_abs2] at e
  exact ev_bind0 (l01Abs_eq h h') (ev_bind0 (l01Abs_eq k k') e)
theorem divisor_ev {a b : Int} (ha : 0 ≤ a) (hb : 0 ≤ b) : Ev (fun k => impl_divisor.f k a b) (gc a b) := impl_divisor_l0 b.toNat a b (by omega) ha
/-- is it a fraction? -/
def RatioB (n d : Int) : Bool := decide (-1000000000 ≤ n ∧ n ≤ 1000000000) && decide (1 ≤ d ∧ d ≤ 1000000000) && (gc n d == 1)
theorem ratioB_true {n d : Int} (h : RatioB n d = true) : (-1000000000 ≤ n ∧ n ≤ 1000000000) ∧ (1 ≤ d ∧ d ≤ 1000000000) ∧ gc n d = 1 := by
  unfold RatioB at h
  simp only [Bool.and_eq_true, decide_eq_true_eq, beq_iff_eq] at h
  exact ⟨h.1.1, h.1.2, h.2⟩
theorem spec_IsRatio_ev (n d : Int) : Ev (fun k => spec_IsRatio.f k n d) (RatioB n d) := by
  unfold spec_IsRatio.f RatioB
  simp only [in_eq, Option.bind_some]
  by_cases a : -1000000000 ≤ n ∧ n ≤ 1000000000
  · refine ev_pos (by simpa using a) ?_
    by_cases b : 1 ≤ d ∧ d ≤ 1000000000
    · refine ev_pos (by simpa using b) ?_
      refine (l01Gcd_ev (by omega) (by omega) (by omega) (by omega)).bind (ev_ret ?_)
      simp [a, b]
    · exact ev_neg (by simpa using b) (ev_ret (by simp [b]))
  · exact ev_neg (by simpa using a) (ev_ret (by simp [a]))
theorem impl_IsRatio_ev (n d : Int) : Ev (fun k => impl_IsRatio.f k n d) (RatioB n d) := by
  unfold impl_IsRatio.f RatioB
  simp only [within_eq, Option.bind_some]
  by_cases a : -1000000000 ≤ n ∧ n ≤ 1000000000
  · refine ev_pos (by simpa using a) ?_
    by_cases b : 1 ≤ d ∧ d ≤ 1000000000
    · refine ev_pos (by simpa using b) ?_
      have e := divisor_ev (a := max n (-n)) (b := d) (by omega) (by omega)
      rw [gc_abs] at e
      refine ev_bind0 (abs_eq (by omega) (by omega)) (e.bind (ev_ret ?_))
      simp [a, b]
    · exact ev_neg (by simpa using b) (ev_ret (by simp [b]))
  · exact ev_neg (by simpa using a) (ev_ret (by simp [a]))

/-! ### the text of a fraction -/
def fracL (n d : Int) : List Int := numL n ++ [47] ++ numL d
theorem bo_slash : bytesOf (⟨#[47]⟩ : ByteArray) = [47] := rfl
theorem sz_slash : (⟨#[47]⟩ : ByteArray).size = 1 := rfl
def RatT (n d : Int) (r : ByteArray × Int) : Prop := (RatioB n d = false ∧ r = (⟨#[]⟩, 1)) ∨ (RatioB n d = true ∧ bytesOf r.1 = fracL n d ∧ r.2 = 0)
theorem ratT_uniq {n d : Int} {a b : ByteArray × Int} (h : RatT n d a) (k : RatT n d b) : a = b := by
  rcases h with ⟨h1, rfl⟩ | ⟨h1, h2, h3⟩ <;> rcases k with ⟨k1, rfl⟩ | ⟨k1, k2, k3⟩
  · rfl
  · rw [h1] at k1; cases k1
  · rw [h1] at k1; cases k1
  · obtain ⟨a1, a2⟩ := a; obtain ⟨b1, b2⟩ := b
    simp only at *
    rw [h3, k3, bo_inj (h2.trans k2.symm)]
theorem impl_ratioText_ev {n d : Int} (h : RatioB n d = true) : ∃ r, Ev (fun k => impl_ratioText.f k n d) r ∧ bytesOf r = fracL n d := by
  obtain ⟨hn, hd, _⟩ := ratioB_true h
  obtain ⟨a, ea, ha⟩ := impl_decimal_ev (n := n) (by omega) (by omega)
  obtain ⟨b, eb, hb⟩ := impl_decimal_ev (n := d) (by omega) (by omega)
  have la := numL_len (n := n) (by omega) (by omega)
  have lb := numL_len (n := d) (by omega) (by omega)
  have sa := sz_bo ha
  have sb := sz_bo hb
  refine ⟨_, ea.bind (ev_pos (by omega) (eb.bind (ev_pos (by rw [ByteArray.size_append, sz_slash]; omega) (Ev.now _)))), ?_⟩
  rw [bo_app, bo_app, ha, hb, bo_slash]; rfl
theorem impl_RatioText_ev (n d : Int) : ∃ r, Ev (fun k => impl_RatioText.f k n d) r ∧ RatT n d r := by
  by_cases h : RatioB n d = true
  · obtain ⟨r, er, hr⟩ := impl_ratioText_ev h
    exact ⟨(r, 0), (impl_IsRatio_ev n d).bind (ev_pos h (er.bind (Ev.now _))), .inr ⟨h, hr, rfl⟩⟩
  · exact ⟨_, (impl_IsRatio_ev n d).bind (ev_neg h (Ev.now _)), .inl ⟨by simpa using h, rfl⟩⟩
theorem spec_l02Text_ev {n d : Int} (h : RatioB n d = true) : ∃ r, Ev (fun k => spec_l02Text.f k n d) r ∧ bytesOf r = fracL n d := by
  obtain ⟨hn, hd, _⟩ := ratioB_true h
  obtain ⟨a, ea, ha⟩ := spec_l01Number_ev (n := n) (by omega) (by omega)
  obtain ⟨b, eb, hb⟩ := spec_l01Dec_ev (n := d) (by omega) (by omega)
  have hb' : bytesOf b = numL d := by rw [hb, numL_pos (by omega)]
  have la := numL_len (n := n) (by omega) (by omega)
  have lb := numL_len (n := d) (by omega) (by omega)
  have sa := sz_bo ha
  have sb := sz_bo hb'
  refine ⟨_, ea.bind (ev_pos (by omega) (eb.bind (ev_pos (by rw [ByteArray.size_append, sz_slash]; omega) (Ev.now _)))), ?_⟩
  rw [bo_app, bo_app, ha, hb', bo_slash]; rfl
theorem spec_RatioText_ev (n d : Int) : ∃ r, Ev (fun k => spec_RatioText.f k n d) r ∧ RatT n d r := by
  by_cases h : RatioB n d = true
  · obtain ⟨r, er, hr⟩ := spec_l02Text_ev h
    exact ⟨(r, 0), (spec_IsRatio_ev n d).bind (ev_pos h (er.bind (Ev.now _))), .inr ⟨h, hr, rfl⟩⟩
  · exact ⟨_, (spec_IsRatio_ev n d).bind (ev_neg h (Ev.now _)), .inl ⟨by simpa using h, rfl⟩⟩
theorem RatioText_both (n d : Int) : ∃ r, Ev (fun k => impl_RatioText.f k n d) r ∧ Ev (fun k => spec_RatioText.f k n d) r ∧ RatT n d r := by
  obtain ⟨a, ha, ha'⟩ := impl_RatioText_ev n d
  obtain ⟨b, hb, hb'⟩ := spec_RatioText_ev n d
  obtain rfl := ratT_uniq ha' hb'
  exact ⟨a, ha, hb, ha'⟩

theorem pure (a b : Int) : ∃ k, laws_FnExactRatioText.f k a b = some true := by
  apply Ev.rounds
  unfold laws_FnExactRatioText.f laws_toRatio.f
  simp only [Option.bind_some]
  obtain ⟨r, e, f, _⟩ := RatioText_both a b
  refine f.bind (e.bind ?_)
  simp only [if_true]
  exact Ev.now _
theorem walk (a b : Int) (_ : (Lit.int .i64 a).wf = true) (_ : (Lit.int .i64 b).wf = true) (W : World) :
    Calls Try.prog 6 #[.agg #[.int .i64 a, .int .i64 b]] W fun e w' => e = .returned (.bool true) ∧ Below W.heap.size W w' := by
  obtain ⟨k, h⟩ := pure a b
  exact laws_FnExactRatioText.calls k a b true W h ⟨rfl⟩

end Go.Proofs.Ytpkadlgnkcbcbaa.GoFnExactRatioText
