/- A fraction is recovered from its text; no condition. -/
import Derived.Test.YtpkadlgnkcbcbaaMa
import Derived.Test.YtpkadlgnkcbcbaaQFnRatioTextsx
namespace Go.Proofs.Ytpkadlgnkcbcbaa.PureFnRatioTexts
open Go.RowKit Go.Proofs.Ytpkadlgnkcbcbaa.QFnRatioTexts Go.Proofs.YtpkadlgnkcbcbaaW.PrintWords Go.Proofs.YtpkadlgnkcbcbaaW.PrintLast Go.Proofs.Ytpkadlgnkcbcbaa.Ma
set_option linter.unusedVariables false
set_option linter.unusedSimpArgs false

/-! ### numbers in decimal -/
def numL (n : Int) : List Int := if n < 0 then 45 :: dec (-n).toNat else dec n.toNat
theorem numL_pos {n : Int} (h : 0 ≤ n) : numL n = dec n.toNat := by unfold numL; rw [if_neg (by omega)]
theorem numL_neg {n : Int} (h : n < 0) : numL n = 45 :: dec (-n).toNat := by unfold numL; rw [if_pos h]
theorem sz_bo {s : ByteArray} {l : List Int} (h : bytesOf s = l) : s.size = l.length := by rw [← h, bytesOf_length]
theorem byte_dig {c : Int} (h : Dig c) : byte c := by unfold Dig at h; unfold byte; omega
theorem bo_one {c : Int} (h : byte c) : bytesOf (strOfNums [c]) = [c] := bo_of _ (fun x hx => by simp only [List.mem_singleton] at hx; subst hx; exact h)
theorem bo_lit (l : List UInt8) : bytesOf ⟨l.toArray⟩ = l.map fun b => (b.toNat : Int) := rfl
theorem pow_int (k : Nat) : ((10 ^ k : Nat) : Int) = (10 : Int) ^ k := by simp
theorem dec_len_le' {n : Int} {k : Nat} (h0 : 0 ≤ n) (h : n < 10 ^ (k + 1)) : (dec n.toNat).length ≤ k + 1 := by
  refine dec_len_le k n.toNat ?_
  have := pow_int (k + 1)
  omega
/-- the byte of the last digit -/
theorem dig_byte {n : Int} (h : 0 ≤ n) : (wrap64 (48 + (Int.tmod n 10))) % 256 = 48 + n % 10 := by
  rw [Int.tmod_eq_emod_of_nonneg h, w64 (by omega) (by omega)]; omega
theorem impl_decimal_l0 : ∀ (d : Nat) (n : Int) (x : ByteArray), 0 ≤ n → n < 10 ^ (d + 1) → n ≤ 9223372036854775807 → x.size + d ≤ 4611686018427387904 → ∃ r, Ev (fun k => impl_decimal.l0 k n x) r ∧ bytesOf r = dec n.toNat ++ bytesOf x := by
  intro d
  induction d with
  | zero =>
    intro n x h0 h1 h2 h3
    have hb : bytesOf (strOfNums [48 + n % 10]) = [48 + n % 10] := bo_one (by unfold byte; omega)
    have hs := sz_bo hb
    refine ⟨strOfNums [48 + n % 10] ++ x, Ev.step (fun k => impl_decimal.l0.eq_2 ..) (ev_bind0 rfl ?_), ?_⟩
    · rw [dig_byte h0, Int.tdiv_eq_ediv_of_nonneg h0, w64 (by omega) (by omega)]
      simp only [List.length_singleton] at hs
      exact ev_pos (by omega) (ev_pos (by omega) (Ev.now _))
    · rw [bo_app, hb, dec_small (by omega)]
      congr 2; omega
  | succ d ih =>
    intro n x h0 h1 h2 h3
    have hb : bytesOf (strOfNums [48 + n % 10]) = [48 + n % 10] := bo_one (by unfold byte; omega)
    have hs := sz_bo hb
    simp only [List.length_singleton] at hs
    by_cases g : n / 10 = 0
    · refine ⟨strOfNums [48 + n % 10] ++ x, Ev.step (fun k => impl_decimal.l0.eq_2 ..) (ev_bind0 rfl ?_), ?_⟩
      · rw [dig_byte h0, Int.tdiv_eq_ediv_of_nonneg h0, w64 (by omega) (by omega)]
        exact ev_pos (by omega) (ev_pos g (Ev.now _))
      · rw [bo_app, hb, dec_small (by omega)]
        congr 2; omega
    · obtain ⟨r, hr, e⟩ := ih (n / 10) (strOfNums [48 + n % 10] ++ x) (by omega) (by rw [Int.pow_succ] at h1; omega) (by omega) (by rw [ByteArray.size_append]; omega)
      refine ⟨r, Ev.step (fun k => impl_decimal.l0.eq_2 ..) (ev_bind0 rfl ?_), ?_⟩
      · rw [dig_byte h0, Int.tdiv_eq_ediv_of_nonneg h0, w64 (by omega) (by omega)]
        exact ev_pos (by omega) (ev_neg g hr)
      · rw [e, bo_app, hb, dec_big (n := n.toNat) (by omega), show n.toNat / 10 = (n / 10).toNat by omega, show ((n.toNat % 10 : Nat) : Int) = n % 10 by omega]
        simp
theorem impl_decimal_nn {n : Int} (h0 : 0 ≤ n) (h1 : n ≤ 1000000000000000000) : ∃ r, Ev (fun k => impl_decimal.f k n) r ∧ bytesOf r = dec n.toNat := by
  obtain ⟨r, hr, e⟩ := impl_decimal_l0 18 n ⟨#[]⟩ h0 (by omega) (by omega) (by decide)
  refine ⟨r, Ev.step (fun k => impl_decimal.f.eq_2 ..) (ev_neg (by omega) hr), ?_⟩
  rw [e, bo_nil]; simp
theorem impl_decimal_ev {n : Int} (h0 : -1000000000000000000 ≤ n) (h1 : n ≤ 1000000000000000000) : ∃ r, Ev (fun k => impl_decimal.f k n) r ∧ bytesOf r = numL n := by
  by_cases g : n < 0
  · obtain ⟨r, hr, e⟩ := impl_decimal_nn (n := -n) (by omega) (by omega)
    have hl := dec_len_le' (n := -n) (k := 18) (by omega) (by omega)
    have hs := sz_bo e
    refine ⟨(⟨#[45]⟩ : ByteArray) ++ r, Ev.step (fun k => impl_decimal.f.eq_2 ..) (ev_pos g ?_), ?_⟩
    · rw [w64 (by omega) (by omega)]
      exact hr.bind (ev_pos (by omega) (Ev.now _))
    · rw [bo_app, e, numL_neg g]; rfl
  · obtain ⟨r, hr, e⟩ := impl_decimal_nn (n := n) (by omega) h1
    exact ⟨r, hr, by rw [e, numL_pos (by omega)]⟩
theorem spec_l01Dec_d : ∀ (d : Nat) (n : Int), 0 ≤ n → n < 10 ^ (d + 1) → n ≤ 9223372036854775807 → d ≤ 1000 → ∃ r, Ev (fun k => spec_l01Dec.f k n) r ∧ bytesOf r = dec n.toNat := by
  intro d
  induction d with
  | zero =>
    intro n h0 h1 h2 _
    have hb : bytesOf (strOfNums [48 + n]) = [48 + n] := bo_one (by unfold byte; omega)
    refine ⟨strOfNums [48 + n], Ev.step (fun k => spec_l01Dec.f.eq_2 ..) (ev_pos (by omega) (ev_ret ?_)), ?_⟩
    · rw [w64 (by omega) (by omega), show (48 + n) % 256 = 48 + n by omega]
    · rw [hb, dec_small (by omega)]
      congr 2; omega
  | succ d ih =>
    intro n h0 h1 h2 hd
    by_cases g : n < 10
    · have hb : bytesOf (strOfNums [48 + n]) = [48 + n] := bo_one (by unfold byte; omega)
      refine ⟨strOfNums [48 + n], Ev.step (fun k => spec_l01Dec.f.eq_2 ..) (ev_pos g (ev_ret ?_)), ?_⟩
      · rw [w64 (by omega) (by omega), show (48 + n) % 256 = 48 + n by omega]
      · rw [hb, dec_small (by omega)]
        congr 2; omega
    · have hb : bytesOf (strOfNums [48 + n % 10]) = [48 + n % 10] := bo_one (by unfold byte; omega)
      have hs := sz_bo hb
      simp only [List.length_singleton] at hs
      obtain ⟨r, hr, e⟩ := ih (n / 10) (by omega) (by rw [Int.pow_succ] at h1; omega) (by omega) (by omega)
      have hl := dec_len_le' (n := n / 10) (k := d) (by omega) (by rw [Int.pow_succ] at h1; omega)
      have hsr := sz_bo e
      refine ⟨r ++ strOfNums [48 + n % 10], Ev.step (fun k => spec_l01Dec.f.eq_2 ..) (ev_neg g ?_), ?_⟩
      · rw [dig_byte h0, Int.tdiv_eq_ediv_of_nonneg h0, w64 (by omega) (by omega)]
        exact hr.bind (ev_bind0 rfl (ev_pos (by omega) (Ev.now _)))
      · rw [bo_app, e, hb, dec_big (n := n.toNat) (by omega), show n.toNat / 10 = (n / 10).toNat by omega, show ((n.toNat % 10 : Nat) : Int) = n % 10 by omega]
theorem spec_l01Dec_ev {n : Int} (h0 : 0 ≤ n) (h1 : n ≤ 1000000000000000000) : ∃ r, Ev (fun k => spec_l01Dec.f k n) r ∧ bytesOf r = dec n.toNat := spec_l01Dec_d 18 n h0 (by omega) (by omega) (by omega)
theorem spec_l01Number_ev {n : Int} (h0 : -1000000000000000000 ≤ n) (h1 : n ≤ 1000000000000000000) : ∃ r, Ev (fun k => spec_l01Number.f k n) r ∧ bytesOf r = numL n := by
  unfold spec_l01Number.f
  by_cases g : n < 0
  · obtain ⟨r, hr, e⟩ := spec_l01Dec_ev (n := -n) (by omega) (by omega)
    have hl := dec_len_le' (n := -n) (k := 18) (by omega) (by omega)
    have hs := sz_bo e
    refine ⟨(⟨#[45]⟩ : ByteArray) ++ r, ev_pos g ?_, ?_⟩
    · rw [w64 (by omega) (by omega)]
      exact hr.bind (ev_pos (by omega) (Ev.now _))
    · rw [bo_app, e, numL_neg g]; rfl
  · obtain ⟨r, hr, e⟩ := spec_l01Dec_ev (n := n) (by omega) h1
    exact ⟨r, ev_neg g (hr.bind (Ev.now _)), by rw [e, numL_pos (by omega)]⟩
theorem numL_len {n : Int} (h0 : -1000000000000000000 ≤ n) (h1 : n ≤ 1000000000000000000) : (numL n).length ≤ 20 := by
  by_cases g : n < 0
  · rw [numL_neg g]
    have hl := dec_len_le' (n := -n) (k := 18) (by omega) (by omega)
    simp; omega
  · rw [numL_pos (by omega)]
    have hl := dec_len_le' (n := n) (k := 18) (by omega) (by omega)
    omega

/-! ### division, ranges -/
theorem in_eq (a b c : Int) : spec_l01In.f a b c = some (decide (b ≤ a ∧ a ≤ c)) := by
  unfold spec_l01In.f
  by_cases h : b ≤ a <;> simp [h]
theorem within_eq (a b c : Int) : impl_within.f a b c = some (decide (b ≤ a ∧ a ≤ c)) := by
  unfold impl_within.f
  by_cases h : b ≤ a <;> simp [h]
theorem tdiv_floor {a b : Int} (hb : 0 < b) : (Int.tmod a b < 0 → Int.tdiv a b - 1 = a / b) ∧ (¬ Int.tmod a b < 0 → Int.tdiv a b = a / b) := by
  have h1 := Int.tdiv_eq_ediv (a := a) (b := b)
  have h2 := Int.tmod_eq_emod (a := a) (b := b)
  have h3 := Int.emod_nonneg a (show b ≠ 0 by omega)
  have h4 := Int.emod_lt_of_pos a hb
  by_cases h : 0 ≤ a ∨ b ∣ a
  · rw [if_pos h] at h1 h2
    omega
  · rw [if_neg h] at h1 h2
    rw [Int.sign_eq_one_of_pos hb] at h1
    omega
theorem ediv_small {a b : Int} (hb : 0 < b) (h : -4611686018427387904 ≤ a) (h' : a ≤ 4611686018427387904) : -4611686018427387904 ≤ a / b ∧ a / b ≤ 4611686018427387904 := by
  have h1 : -4611686018427387904 * b ≤ a := by
    have := Int.mul_le_mul_of_nonneg_left (show 1 ≤ b by omega) (show (0 : Int) ≤ 4611686018427387904 by omega); omega
  have h2 : a < (4611686018427387904 + 1) * b := by
    have := Int.mul_le_mul_of_nonneg_left (show 1 ≤ b by omega) (show (0 : Int) ≤ 4611686018427387905 by omega); omega
  have h3 := (Int.le_ediv_iff_mul_le hb).2 h1
  have h4 := (Int.ediv_lt_iff_lt_mul hb).2 h2
  omega
/-! ### fractions -/
theorem mx_max (a b : Int) : mx a b = max a b := by unfold mx; omega
def gc (a b : Int) : Int := (a.natAbs.gcd b.natAbs : Nat)
theorem gcd_step {a b : Int} (ha : 0 ≤ a) (hb : 0 < b) : gc b (Int.tmod a b) = gc a b := by
  unfold gc
  rw [Int.tmod_eq_emod_of_nonneg ha, Nat.gcd_comm a.natAbs, Nat.gcd_rec b.natAbs a.natAbs, Nat.gcd_comm (a.natAbs % b.natAbs)]
  have e : (a % b).natAbs = a.natAbs % b.natAbs := by
    obtain ⟨m, rfl⟩ := Int.eq_ofNat_of_zero_le ha
    obtain ⟨n, rfl⟩ := Int.eq_ofNat_of_zero_le (show 0 ≤ b by omega)
    rw [← Int.natCast_emod]; simp only [Int.natAbs_natCast]
  rw [e]
theorem gcd_zero {a : Int} (ha : 0 ≤ a) : gc a 0 = a := by unfold gc; simp; omega
theorem spec_l01Gcd_l0 : ∀ (n : Nat) (a b : Int), b = n → 0 ≤ a → Ev (fun k => spec_l01Gcd.l0 k a b) (gc a b) := by
  intro n
  induction n using Nat.strongRecOn with
  | ind n ih =>
    intro a b hb ha
    by_cases h : b = 0
    · subst h
      exact Ev.step (fun k => spec_l01Gcd.l0.eq_2 ..) (ev_pos rfl (ev_ret (gcd_zero ha).symm))
    · have h1 := Int.emod_lt_of_pos a (show 0 < b by omega)
      have h2 := Int.emod_nonneg a h
      have h3 := Int.tmod_eq_emod_of_nonneg (b := b) ha
      have := ih (Int.tmod a b).toNat (by omega) b (Int.tmod a b) (by omega) (by omega)
      rw [gcd_step ha (by omega)] at this
      exact Ev.step (fun k => spec_l01Gcd.l0.eq_2 ..) (ev_neg h this)
theorem impl_divisor_l0 : ∀ (n : Nat) (a b : Int), b = n → 0 ≤ a → Ev (fun k => impl_divisor.l0 k a b) (gc a b) := by
  intro n
  induction n using Nat.strongRecOn with
  | ind n ih =>
    intro a b hb ha
    by_cases h : b = 0
    · subst h
      exact Ev.step (fun k => impl_divisor.l0.eq_2 ..) (ev_pos rfl (ev_ret (gcd_zero ha).symm))
    · have h1 := Int.emod_lt_of_pos a (show 0 < b by omega)
      have h2 := Int.emod_nonneg a h
      have h3 := Int.tmod_eq_emod_of_nonneg (b := b) ha
      have := ih (Int.tmod a b).toNat (by omega) b (Int.tmod a b) (by omega) (by omega)
      rw [gcd_step ha (by omega)] at this
      exact Ev.step (fun k => impl_divisor.l0.eq_2 ..) (ev_neg h this)
theorem gc_abs (a b : Int) : gc (max a (-a)) b = gc a b := by unfold gc; congr 2; omega
theorem gc_abs2 (a b : Int) : gc a (max b (-b)) = gc a b := by unfold gc; congr 2; omega
theorem l01Abs_eq {a : Int} (h : -4611686018427387904 ≤ a) (h' : a ≤ 4611686018427387904) : spec_l01Abs.f a = some (max a (-a)) := by
  unfold spec_l01Abs.f; rw [w64 (by omega) (by omega), mx_max]
theorem abs_eq {a : Int} (h : -4611686018427387904 ≤ a) (h' : a ≤ 4611686018427387904) : impl_abs.f a = some (max a (-a)) := by
  unfold impl_abs.f
  by_cases g : a < 0
  · rw [if_pos g, w64 (by omega) (by omega)]; congr 1; omega
  · rw [if_neg g]; congr 1; omega
theorem l01Gcd_ev {a b : Int} (h : -4611686018427387904 ≤ a) (h' : a ≤ 4611686018427387904) (k : -4611686018427387904 ≤ b) (k' : b ≤ 4611686018427387904) : Ev (fun k => spec_l01Gcd.f k a b) (gc a b) := by
  have e := spec_l01Gcd_l0 (max b (-b)).toNat (max a (-a)) (max b (-b)) (by omega) (by omega)
  rw [gc_abs, gc_abs2] at e
  exact ev_bind0 (l01Abs_eq h h') (ev_bind0 (l01Abs_eq k k') e)
theorem divisor_ev {a b : Int} (ha : 0 ≤ a) (hb : 0 ≤ b) : Ev (fun k => impl_divisor.f k a b) (gc a b) := impl_divisor_l0 b.toNat a b (by omega) ha
/-- is it a fraction? -/
def RatioB (n d : Int) : Bool := decide (-1000000000 ≤ n ∧ n ≤ 1000000000) && decide (1 ≤ d ∧ d ≤ 1000000000) && (gc n d == 1)
theorem ratioB_true {n d : Int} (h : RatioB n d = true) : (-1000000000 ≤ n ∧ n ≤ 1000000000) ∧ (1 ≤ d ∧ d ≤ 1000000000) ∧ gc n d = 1 := by
  unfold RatioB at h
  simp only [Bool.and_eq_true, decide_eq_true_eq, beq_iff_eq] at h
  exact ⟨h.1.1, h.1.2, h.2⟩
theorem spec_IsRatio_ev (n d : Int) : Ev (fun k => spec_IsRatio.f k n d) (RatioB n d) := by
  unfold spec_IsRatio.f RatioB
  simp only [in_eq, Option.bind_some]
  by_cases a : -1000000000 ≤ n ∧ n ≤ 1000000000
  · refine ev_pos (by simpa using a) ?_
    by_cases b : 1 ≤ d ∧ d ≤ 1000000000
    · refine ev_pos (by simpa using b) ?_
      refine (l01Gcd_ev (by omega) (by omega) (by omega) (by omega)).bind (ev_ret ?_)
      simp [a, b]
    · exact ev_neg (by simpa using b) (ev_ret (by simp [b]))
  · exact ev_neg (by simpa using a) (ev_ret (by simp [a]))
theorem impl_IsRatio_ev (n d : Int) : Ev (fun k => impl_IsRatio.f k n d) (RatioB n d) := by
  unfold impl_IsRatio.f RatioB
  simp only [within_eq, Option.bind_some]
  by_cases a : -1000000000 ≤ n ∧ n ≤ 1000000000
  · refine ev_pos (by simpa using a) ?_
    by_cases b : 1 ≤ d ∧ d ≤ 1000000000
    · refine ev_pos (by simpa using b) ?_
      have e := divisor_ev (a := max n (-n)) (b := d) (by omega) (by omega)
      rw [gc_abs] at e
      refine ev_bind0 (abs_eq (by omega) (by omega)) (e.bind (ev_ret ?_))
      simp [a, b]
    · exact ev_neg (by simpa using b) (ev_ret (by simp [b]))
  · exact ev_neg (by simpa using a) (ev_ret (by simp [a]))

/-! ### the text of a fraction -/
def fracL (n d : Int) : List Int := numL n ++ [47] ++ numL d
theorem bo_slash : bytesOf (⟨#[47]⟩ : ByteArray) = [47] := rfl
theorem sz_slash : (⟨#[47]⟩ : ByteArray).size = 1 := rfl
def RatT (n d : Int) (r : ByteArray × Int) : Prop := (RatioB n d = false ∧ r = (⟨#[]⟩, 1)) ∨ (RatioB n d = true ∧ bytesOf r.1 = fracL n d ∧ r.2 = 0)
theorem ratT_uniq {n d : Int} {a b : ByteArray × Int} (h : RatT n d a) (k : RatT n d b) : a = b := by
  rcases h with ⟨h1, rfl⟩ | ⟨h1, h2, h3⟩ <;> rcases k with ⟨k1, rfl⟩ | ⟨k1, k2, k3⟩
  · rfl
  · rw [h1] at k1; cases k1
  · rw [h1] at k1; cases k1
  · obtain ⟨a1, a2⟩ := a; obtain ⟨b1, b2⟩ := b
    simp only at *
    rw [h3, k3, bo_inj (h2.trans k2.symm)]
theorem impl_ratioText_ev {n d : Int} (h : RatioB n d = true) : ∃ r, Ev (fun k => impl_ratioText.f k n d) r ∧ bytesOf r = fracL n d := by
  obtain ⟨hn, hd, _⟩ := ratioB_true h
  obtain ⟨a, ea, ha⟩ := impl_decimal_ev (n := n) (by omega) (by omega)
  obtain ⟨b, eb, hb⟩ := impl_decimal_ev (n := d) (by omega) (by omega)
  have la := numL_len (n := n) (by omega) (by omega)
  have lb := numL_len (n := d) (by omega) (by omega)
  have sa := sz_bo ha
  have sb := sz_bo hb
  refine ⟨_, ea.bind (ev_pos (by omega) (eb.bind (ev_pos (by rw [ByteArray.size_append, sz_slash]; omega) (Ev.now _)))), ?_⟩
  rw [bo_app, bo_app, ha, hb, bo_slash]; rfl
theorem impl_RatioText_ev (n d : Int) : ∃ r, Ev (fun k => impl_RatioText.f k n d) r ∧ RatT n d r := by
  by_cases h : RatioB n d = true
  · obtain ⟨r, er, hr⟩ := impl_ratioText_ev h
    exact ⟨(r, 0), (impl_IsRatio_ev n d).bind (ev_pos h (er.bind (Ev.now _))), .inr ⟨h, hr, rfl⟩⟩
  · exact ⟨_, (impl_IsRatio_ev n d).bind (ev_neg h (Ev.now _)), .inl ⟨by simpa using h, rfl⟩⟩
theorem spec_l02Text_ev {n d : Int} (h : RatioB n d = true) : ∃ r, Ev (fun k => spec_l02Text.f k n d) r ∧ bytesOf r = fracL n d := by
  obtain ⟨hn, hd, _⟩ := ratioB_true h
  obtain ⟨a, ea, ha⟩ := spec_l01Number_ev (n := n) (by omega) (by omega)
  obtain ⟨b, eb, hb⟩ := spec_l01Dec_ev (n := d) (by omega) (by omega)
  have hb' : bytesOf b = numL d := by rw [hb, numL_pos (by omega)]
  have la := numL_len (n := n) (by omega) (by omega)
  have lb := numL_len (n := d) (by omega) (by omega)
  have sa := sz_bo ha
  have sb := sz_bo hb'
  refine ⟨_, ea.bind (ev_pos (by omega) (eb.bind (ev_pos (by rw [ByteArray.size_append, sz_slash]; omega) (Ev.now _)))), ?_⟩
  rw [bo_app, bo_app, ha, hb', bo_slash]; rfl
theorem spec_RatioText_ev (n d : Int) : ∃ r, Ev (fun k => spec_RatioText.f k n d) r ∧ RatT n d r := by
  by_cases h : RatioB n d = true
  · obtain ⟨r, er, hr⟩ := spec_l02Text_ev h
    exact ⟨(r, 0), (spec_IsRatio_ev n d).bind (ev_pos h (er.bind (Ev.now _))), .inr ⟨h, hr, rfl⟩⟩
  · exact ⟨_, (spec_IsRatio_ev n d).bind (ev_neg h (Ev.now _)), .inl ⟨by simpa using h, rfl⟩⟩
theorem RatioText_both (n d : Int) : ∃ r, Ev (fun k => impl_RatioText.f k n d) r ∧ Ev (fun k => spec_RatioText.f k n d) r ∧ RatT n d r := by
  obtain ⟨a, ha, ha'⟩ := impl_RatioText_ev n d
  obtain ⟨b, hb, hb'⟩ := spec_RatioText_ev n d
  obtain rfl := ratT_uniq ha' hb'
  exact ⟨a, ha, hb, ha'⟩

/-! ### numbers, read -/
theorem val_take_step {v c : Int} (h : Dig c) (h0 : 0 ≤ v) (h1 : v ≤ 100000000000000000) : wrap64 ((wrap64 (10 * v)) + ((c - 48) % 256)) = 10 * v + (c - 48) := by
  unfold Dig at h
  rw [w64 (n := 10 * v) (by omega) (by omega), show (c - 48) % 256 = c - 48 by omega, w64 (by omega) (by omega)]
def foldV (v : Int) (l : List Int) : Int := l.foldl (fun a c => 10 * a + (c - 48)) v
theorem foldV_cons (v c : Int) (l : List Int) : foldV v (c :: l) = foldV (10 * v + (c - 48)) l := rfl
theorem foldV_zero (l : List Int) : foldV 0 l = val l := rfl
instance (c : Int) : Decidable (Dig c) := by unfold Dig; infer_instance
def allDig (l : List Int) : Bool := l.all fun c => decide (Dig c)
theorem allDig_iff {l : List Int} : allDig l = true ↔ ∀ c ∈ l, Dig c := by unfold allDig; simp
theorem allDig_cons {c : Int} {l : List Int} : allDig (c :: l) = (decide (Dig c) && allDig l) := rfl
theorem dig_lo {c : Int} (h : c < 48) : ¬ Dig c := by unfold Dig; omega
theorem dig_hi {c : Int} (h : c > 57) : ¬ Dig c := by unfold Dig; omega
theorem dig_in {c : Int} (h : ¬ c < 48) (h' : ¬ c > 57) : Dig c := by unfold Dig; omega
/-- the digits of a number, read one by one: v holds what has been read, less than ten to the power of what is left of eighteen -/
theorem impl_readDecimal_l0 (x s : ByteArray) (hs : s.size ≤ 18) : ∀ (R : List Int) (i : Nat) (v : Int), (bytesOf s).drop i = R → i ≤ s.size → 0 ≤ v → v < 10 ^ i →
    Ev (fun k => impl_readDecimal.l0 k x s v i) (if allDig R = true then ((if s.size < x.size then -(foldV v R) else foldV v R), true) else (0, false)) := by
  intro R
  induction R with
  | nil =>
    intro i v h hi v0 v1
    have h1 := bo_drop_nil h
    have hp : (10 : Int) ^ i ≤ 10 ^ 18 := by
      have := Nat.pow_le_pow_right (show 0 < 10 by omega) (show i ≤ 18 by omega)
      have e1 := pow_int i
      have e2 := pow_int 18
      omega
    refine Ev.step (fun k => impl_readDecimal.l0.eq_2 ..) (ev_neg (by omega) ?_)
    rw [if_pos (show allDig [] = true from rfl)]
    by_cases g : s.size < x.size
    · refine ev_pos (by omega) (ev_ret ?_)
      rw [if_pos g, w64 (by omega) (by omega)]; rfl
    · refine ev_neg (by omega) (ev_ret ?_)
      rw [if_neg g]; rfl
  | cons c R ih =>
    intro i v h hi v0 v1
    obtain ⟨h1, h2, h3⟩ := bt_drop h
    have hp : (10 : Int) ^ i ≤ 10 ^ 17 := by
      have := Nat.pow_le_pow_right (show 0 < 10 by omega) (show i ≤ 17 by omega)
      have e1 := pow_int i
      have e2 := pow_int 17
      omega
    refine Ev.step (fun k => impl_readDecimal.l0.eq_2 ..) (ev_pos (by omega) (ev_pos (by omega) ?_))
    rw [h2]
    by_cases a : c < 48
    · exact ev_pos a (ev_ret (by rw [allDig_cons]; simp [dig_lo a]))
    · refine ev_neg a ?_
      by_cases b : c > 57
      · exact ev_pos b (ev_ret (by rw [allDig_cons]; simp [dig_hi b]))
      · refine ev_neg b ?_
        have hd := dig_in a b
        rw [val_take_step hd v0 (by omega), w64 (n := (i : Int) + 1) (by omega) (by omega)]
        have := ih (i + 1) (10 * v + (c - 48)) h3 (by omega) (by unfold Dig at hd; omega) (by unfold Dig at hd; rw [Int.pow_succ]; omega)
        rw [allDig_cons, foldV_cons]
        simp only [hd, decide_true, Bool.true_and]
        exact this
/-- what readDecimal answers -/
def readD1 (D l : List Int) : Int × Bool :=
  if D.length = 0 ∨ D.length > 18 ∨ (D.head? = some 48 ∧ (D.length > 1 ∨ l.length > 1)) then (0, false)
  else if allDig D = true then ((if D.length < l.length then -(val D) else val D), true) else (0, false)
def readD (l : List Int) : Int × Bool := if l.head? = some 45 then readD1 l.tail l else readD1 l l
theorem impl_readDecimal_j2 (x s : ByteArray) (hs : s.size ≤ 18) : Ev (fun k => impl_readDecimal.j2 k x s false) (if allDig (bytesOf s) = true then ((if s.size < x.size then -(val (bytesOf s)) else val (bytesOf s)), true) else (0, false)) := by
  have := impl_readDecimal_l0 x s hs (bytesOf s) 0 0 rfl (by omega) (by omega) (by decide)
  exact Ev.step (fun k => impl_readDecimal.j2.eq_2 ..) (ev_neg (by simp) this)
theorem impl_readDecimal_j2t (x s : ByteArray) : Ev (fun k => impl_readDecimal.j2 k x s true) (0, false) := Ev.step (fun k => impl_readDecimal.j2.eq_2 ..) (ev_pos rfl (Ev.now _))
theorem bt_head {s : ByteArray} (h : 0 < s.size) : (bytesOf s).head? = some (bt s 0) := by
  have hl := bytesOf_length s
  cases hb : bytesOf s with
  | nil => rw [hb] at hl; simp at hl; omega
  | cons c R =>
    obtain ⟨_, h2, _⟩ := bt_drop (i := 0) (R := R) (c := c) (s := s) (by rw [hb]; rfl)
    simp only [List.head?_cons, Option.some.injEq]
    exact h2.symm
theorem impl_readDecimal_j1 (x s : ByteArray) (hx : x.size ≤ 4611686018427387904) (hsx : s.size ≤ x.size) : Ev (fun k => impl_readDecimal.j1 k x s) (readD1 (bytesOf s) (bytesOf x)) := by
  have hl := bytesOf_length s
  have hlx := bytesOf_length x
  unfold readD1
  refine Ev.step (fun k => impl_readDecimal.j1.eq_2 ..) ?_
  by_cases a : (s.size : Int) = 0
  · rw [if_pos (.inl (by omega))]
    exact ev_pos a (impl_readDecimal_j2t x s)
  refine ev_neg a ?_
  by_cases b : (s.size : Int) > 18
  · rw [if_pos (.inr (.inl (by omega)))]
    exact ev_pos b (impl_readDecimal_j2t x s)
  refine ev_neg b (ev_pos (by omega) ?_)
  have hh := bt_head (s := s) (by omega)
  have hj := impl_readDecimal_j2 x s (by omega)
  rw [← hl, ← hlx] at hj
  by_cases c : bt s 0 = 48
  · refine ev_pos c ?_
    by_cases d : (s.size : Int) > 1
    · rw [if_pos (.inr (.inr ⟨by rw [hh, c], .inl (by omega)⟩))]
      exact ev_pos d (impl_readDecimal_j2t x s)
    · refine ev_neg d ?_
      by_cases e : (x.size : Int) > 1
      · rw [if_pos (.inr (.inr ⟨by rw [hh, c], .inr (by omega)⟩)), show decide ((x.size : Int) > 1) = true from decide_eq_true e]
        exact impl_readDecimal_j2t x s
      · rw [show decide ((x.size : Int) > 1) = false from decide_eq_false e, if_neg (by omega)]
        exact hj
  · refine ev_neg c ?_
    rw [if_neg (by rintro (h | h | ⟨h, _⟩); omega; omega; rw [hh] at h; exact c (Option.some.inj h))]
    exact hj
theorem impl_readDecimal_ev (s : ByteArray) (hs : s.size ≤ 4611686018427387904) : Ev (fun k => impl_readDecimal.f k s) (readD (bytesOf s)) := by
  have hl := bytesOf_length s
  unfold impl_readDecimal.f
  by_cases a : (s.size : Int) > 0
  · refine ev_pos a (ev_pos (by omega) ?_)
    have hh := bt_head (s := s) (by omega)
    by_cases b : bt s 0 = 45
    · have e : (bt s 0 == 45) = true := beq_iff_eq.2 b
      rw [e]
      refine Ev.step (fun k => impl_readDecimal.j0.eq_2 ..) (ev_pos rfl (ev_pos (by omega) ?_))
      have hx : bytesOf (s.extract 1 s.size) = (bytesOf s).tail := by
        rw [bo_ext, List.take_of_length_le (by omega), List.drop_one]
      have := impl_readDecimal_j1 s (s.extract 1 s.size) hs (by rw [ByteArray.size_extract]; omega)
      rw [hx] at this
      unfold readD
      rw [if_pos (by rw [hh, b])]
      exact this
    · have e : (bt s 0 == 45) = false := beq_eq_false_iff_ne.2 b
      rw [e]
      refine Ev.step (fun k => impl_readDecimal.j0.eq_2 ..) (ev_neg (by simp) ?_)
      have := impl_readDecimal_j1 s s hs (by omega)
      unfold readD
      rw [if_neg (by rw [hh]; intro h; exact b (Option.some.inj h))]
      exact this
  · refine ev_neg a (Ev.step (fun k => impl_readDecimal.j0.eq_2 ..) (ev_neg (by simp) ?_))
    have := impl_readDecimal_j1 s s hs (by omega)
    unfold readD
    have h0 : bytesOf s = [] := List.eq_nil_of_length_eq_zero (by omega)
    rw [if_neg (by rw [h0]; simp)]
    exact this
/-- It reads just what was written. -/
theorem dec_allDig (n : Nat) : allDig (dec n) = true := allDig_iff.2 (dec_dig n)
theorem dec_head45 (n : Nat) : (dec n).head? ≠ some 45 := by
  intro h
  have : (45 : Int) ∈ dec n := List.mem_of_mem_head? h
  have := dec_dig n 45 this
  unfold Dig at this; omega
theorem dec_head48 {n : Nat} (h : (dec n).head? = some 48) : n = 0 := by
  rcases Nat.eq_zero_or_pos n with g | g
  · exact g
  · exact absurd rfl (dec_head n g 48 h)
theorem readD_numL {n : Int} (h0 : -1000000000000000000 < n) (h1 : n < 1000000000000000000) : readD (numL n) = (n, true) := by
  unfold readD
  by_cases g : n < 0
  · rw [numL_neg g]
    have hl := dec_len_le' (n := -n) (k := 17) (by omega) (by omega)
    have hp := dec_len_pos (-n).toNat
    rw [if_pos (by rfl), List.tail_cons]
    unfold readD1
    rw [if_neg (by
      rintro (h | h | ⟨h, _⟩)
      · omega
      · omega
      · have := dec_head48 h; omega), if_pos (dec_allDig _), if_pos (by simp), val_dec]
    congr 1; omega
  · rw [numL_pos (by omega)]
    have hl := dec_len_le' (n := n) (k := 17) (by omega) (by omega)
    have hp := dec_len_pos n.toNat
    rw [if_neg (dec_head45 _)]
    unfold readD1
    rw [if_neg (by
      rintro (h | h | ⟨h, h'⟩)
      · omega
      · omega
      · have e := dec_head48 h
        have : (dec n.toNat).length = 1 := by rw [e, dec_small (by omega)]; rfl
        omega), if_pos (dec_allDig _), if_neg (by omega), val_dec]
    congr 1; omega
theorem readD_inv {l : List Int} {n : Int} (h : readD l = (n, true)) : l = numL n ∧ -1000000000000000000 < n ∧ n < 1000000000000000000 := by
  unfold readD at h
  by_cases g : l.head? = some 45
  · rw [if_pos g] at h
    obtain ⟨D, rfl⟩ : ∃ D, l = 45 :: D := by
      cases l with
      | nil => simp at g
      | cons c D => simp only [List.head?_cons, Option.some.injEq] at g; subst g; exact ⟨D, rfl⟩
    simp only [List.tail_cons] at h
    unfold readD1 at h
    split at h
    · simp at h
    · rename_i h1
      split at h
      · rename_i h2
        have hD : D ≠ [] := by intro e; subst e; simp at h1
        have hd := allDig_iff.1 h2
        have h48 : D.head? ≠ some 48 := fun e => h1 (.inr (.inr ⟨e, .inr (by
          have : 1 ≤ D.length := by cases D with | nil => exact absurd rfl hD | cons => simp
          simp; omega)⟩))
        have hv := dec_val D hd hD (fun e => absurd e h48)
        have hlt := val_lt D hd
        have hpos : 1 ≤ val D := by
          rcases Int.lt_or_le (val D) 1 with q | q
          · have e0 : val D = 0 := by omega
            have := hv.1
            rw [e0] at this
            rw [← this] at h48
            exact absurd (by rw [Int.toNat_zero, dec_small (by omega)]; rfl) h48
          · exact q
        rw [if_pos (by simp)] at h
        have e : -(val D) = n := (Prod.mk.inj h).1
        have hp : (10 : Int) ^ D.length ≤ 10 ^ 18 := by
          have h18 : D.length ≤ 18 := by
            rcases Nat.lt_or_ge 18 D.length with q | q
            · exact absurd (.inr (.inl q)) h1
            · exact q
          have := Nat.pow_le_pow_right (show 0 < 10 by omega) h18
          have e1 := pow_int D.length
          have e2 := pow_int 18
          omega
        refine ⟨?_, by omega, by omega⟩
        rw [numL_neg (by omega), show -n = val D by omega, hv.1]
      · simp at h
  · rw [if_neg g] at h
    unfold readD1 at h
    split at h
    · simp at h
    · rename_i h1
      split at h
      · rename_i h2
        have hD : l ≠ [] := by intro e; subst e; simp at h1
        have hd := allDig_iff.1 h2
        have hv := dec_val l hd hD (fun e => by
          rcases Nat.lt_or_ge 1 l.length with q | q
          · exact absurd (.inr (.inr ⟨e, .inl q⟩)) h1
          · have : 1 ≤ l.length := by cases l with | nil => exact absurd rfl hD | cons => simp
            omega)
        have hlt := val_lt l hd
        rw [if_neg (by omega)] at h
        have e : val l = n := (Prod.mk.inj h).1
        have hp : (10 : Int) ^ l.length ≤ 10 ^ 18 := by
          have h18 : l.length ≤ 18 := by
            rcases Nat.lt_or_ge 18 l.length with q | q
            · exact absurd (.inr (.inl q)) h1
            · exact q
          have := Nat.pow_le_pow_right (show 0 < 10 by omega) h18
          have e1 := pow_int l.length
          have e2 := pow_int 18
          omega
        refine ⟨?_, by omega, by omega⟩
        rw [numL_pos (by omega), ← e, hv.1]
      · simp at h
theorem readD1_not {D l : List Int} (h : (readD1 D l).2 = false) : readD1 D l = (0, false) := by
  unfold readD1 at h ⊢
  split
  · rfl
  · rename_i h1
    rw [if_neg h1] at h
    split
    · rename_i h2
      rw [if_pos h2] at h; simp at h
    · rfl
theorem readD_not {l : List Int} (h : (readD l).2 = false) : readD l = (0, false) := by
  unfold readD at h ⊢
  split
  · rename_i h1
    rw [if_pos h1] at h
    exact readD1_not h
  · rename_i h1
    rw [if_neg h1] at h
    exact readD1_not h

def valueL (l : List Int) : Int × Bool := if l.length < 1 ∨ l.length > 13 then (0, false) else if allDig l = true then (val l, decide (dec (val l).toNat = l)) else (0, false)
def signedL (l : List Int) : Int × Bool := if l.head? = some 45 then (-(valueL l.tail).1, (valueL l.tail).2 && decide ((valueL l.tail).1 > 0)) else valueL l
theorem foldV_val : ∀ (l : List Int) (v : Int), foldV v l = v * 10 ^ l.length + val l
  | [], v => by simp [foldV, val]
  | c :: l, v => by
    rw [foldV_cons, foldV_val l, ← foldV_zero (c :: l), foldV_cons, foldV_val l, List.length_cons, Int.pow_succ]
    grind
theorem spec_l01Value_l0 (s : ByteArray) (hs : s.size ≤ 13) (hz : ∀ c ∈ bytesOf s, byte c) : ∀ (R : List Int) (i : Nat) (v : Int), (bytesOf s).drop i = R → i ≤ s.size → 0 ≤ v → v < 10 ^ i →
    Ev (fun k => spec_l01Value.l0 k s v i) (if allDig R = true then (foldV v R, decide (dec (foldV v R).toNat = bytesOf s)) else (0, false)) := by
  intro R
  induction R with
  | nil =>
    intro i v h hi v0 v1
    have h1 := bo_drop_nil h
    have hp : (10 : Int) ^ i ≤ 10 ^ 13 := by
      have := Nat.pow_le_pow_right (show 0 < 10 by omega) (show i ≤ 13 by omega)
      have e1 := pow_int i
      have e2 := pow_int 13
      omega
    obtain ⟨r, hr, e⟩ := spec_l01Dec_ev (n := v) v0 (by omega)
    refine Ev.step (fun k => spec_l01Value.l0.eq_2 ..) (ev_neg (by omega) (hr.bind (ev_ret ?_)))
    rw [if_pos (show allDig [] = true from rfl)]
    show (v, r.toList == s.toList) = (v, decide (dec v.toNat = bytesOf s))
    congr 1
    rw [Bool.eq_iff_iff, beq_iff_eq, toList_eq, decide_eq_true_eq, bo_eq, e]
  | cons c R ih =>
    intro i v h hi v0 v1
    obtain ⟨h1, h2, h3⟩ := bt_drop h
    have hp : (10 : Int) ^ i ≤ 10 ^ 13 := by
      have := Nat.pow_le_pow_right (show 0 < 10 by omega) (show i ≤ 13 by omega)
      have e1 := pow_int i
      have e2 := pow_int 13
      omega
    refine Ev.step (fun k => spec_l01Value.l0.eq_2 ..) (ev_pos (by omega) (ev_pos (by omega) ?_))
    rw [h2]
    by_cases a : c < 48
    · exact ev_pos a (ev_ret (by rw [allDig_cons]; simp [dig_lo a]))
    · refine ev_neg a ?_
      by_cases b : c > 57
      · exact ev_pos b (ev_ret (by rw [allDig_cons]; simp [dig_hi b]))
      · refine ev_neg b ?_
        have hd := dig_in a b
        rw [val_take_step hd v0 (by omega), w64 (n := (i : Int) + 1) (by omega) (by omega)]
        have := ih (i + 1) (10 * v + (c - 48)) h3 (by omega) (by unfold Dig at hd; omega) (by unfold Dig at hd; rw [Int.pow_succ]; omega)
        rw [allDig_cons, foldV_cons]
        simp only [hd, decide_true, Bool.true_and]
        exact this
theorem spec_l01Value_ev (s : ByteArray) : Ev (fun k => spec_l01Value.f k s) (valueL (bytesOf s)) := by
  have hl := bytesOf_length s
  unfold spec_l01Value.f valueL
  by_cases a : (s.size : Int) < 1
  · rw [if_pos (.inl (by omega))]
    exact ev_pos a (Ev.step (fun k => spec_l01Value.j0.eq_2 ..) (ev_pos rfl (Ev.now _)))
  · refine ev_neg a (Ev.step (fun k => spec_l01Value.j0.eq_2 ..) ?_)
    by_cases b : (s.size : Int) > 13
    · rw [if_pos (.inr (by omega))]
      exact ev_pos (by simpa using b) (Ev.now _)
    · rw [if_neg (by omega)]
      exact ev_neg (by simpa using b) (spec_l01Value_l0 s (by omega) (bo_byte s) (bytesOf s) 0 0 rfl (by omega) (by omega) (by decide))
theorem valueL_bound (l : List Int) : 0 ≤ (valueL l).1 ∧ (valueL l).1 < 10000000000000 := by
  unfold valueL
  split
  · simp
  · rename_i h
    split
    · rename_i h2
      have := val_lt l (allDig_iff.1 h2)
      have hp : (10 : Int) ^ l.length ≤ 10 ^ 13 := by
        have := Nat.pow_le_pow_right (show 0 < 10 by omega) (show l.length ≤ 13 by omega)
        have e1 := pow_int l.length
        have e2 := pow_int 13
        omega
      exact ⟨this.1, by show val l < _; omega⟩
    · simp
theorem spec_l01Signed_ev (s : ByteArray) (hs : s.size ≤ 4611686018427387904) : Ev (fun k => spec_l01Signed.f k s) (signedL (bytesOf s)) := by
  have hl := bytesOf_length s
  unfold spec_l01Signed.f signedL
  by_cases a : (s.size : Int) > 0
  · refine ev_pos a (ev_pos (by omega) ?_)
    have hh := bt_head (s := s) (by omega)
    by_cases b : bt s 0 = 45
    · have e : (bt s 0 == 45) = true := beq_iff_eq.2 b
      rw [e, if_pos (by rw [hh, b])]
      refine Ev.step (fun k => spec_l01Signed.j0.eq_2 ..) (ev_pos rfl (ev_pos (by omega) ?_))
      have hx : bytesOf (s.extract 1 s.size) = (bytesOf s).tail := by
        rw [bo_ext, List.take_of_length_le (by omega), List.drop_one]
      have hv := spec_l01Value_ev (s.extract 1 s.size)
      rw [hx] at hv
      have hb := valueL_bound (bytesOf s).tail
      refine hv.bind ?_
      rw [w64 (by omega) (by omega)]
      by_cases c : (valueL (bytesOf s).tail).2 = true
      · exact ev_pos c (ev_ret (by rw [c, Bool.true_and]))
      · exact ev_neg c (ev_ret (by rw [Bool.eq_false_iff.2 c, Bool.false_and]))
    · have e : (bt s 0 == 45) = false := beq_eq_false_iff_ne.2 b
      rw [e, if_neg (by rw [hh]; intro h; exact b (Option.some.inj h))]
      exact Ev.step (fun k => spec_l01Signed.j0.eq_2 ..) (ev_neg (by simp) ((spec_l01Value_ev s).bind (Ev.now _)))
  · have h0 : bytesOf s = [] := List.eq_nil_of_length_eq_zero (by omega)
    rw [if_neg (by rw [h0]; simp)]
    exact ev_neg a (Ev.step (fun k => spec_l01Signed.j0.eq_2 ..) (ev_neg (by simp) ((spec_l01Value_ev s).bind (Ev.now _))))
theorem valueL_dec {n : Int} (h0 : 0 ≤ n) (h1 : n < 10000000000000) : valueL (dec n.toNat) = (n, true) := by
  have hl := dec_len_le' (n := n) (k := 12) h0 (by omega)
  have hp := dec_len_pos n.toNat
  unfold valueL
  rw [if_neg (by omega), if_pos (dec_allDig _), val_dec, show ((n.toNat : Nat) : Int) = n by omega]
  simp
theorem valueL_inv {l : List Int} {n : Int} (h : valueL l = (n, true)) : l = dec n.toNat ∧ 0 ≤ n ∧ n < 10000000000000 := by
  have hb := valueL_bound l
  rw [h] at hb
  unfold valueL at h
  split at h
  · simp at h
  · split at h
    · simp only [Prod.mk.injEq, decide_eq_true_eq] at h
      rw [← h.1]
      exact ⟨h.2.symm, by have := h.1; omega, by have := h.1; omega⟩
    · simp at h
theorem signedL_num {n : Int} (h0 : -10000000000000 < n) (h1 : n < 10000000000000) : signedL (numL n) = (n, true) := by
  unfold signedL
  by_cases g : n < 0
  · rw [numL_neg g, if_pos (by rfl), List.tail_cons, valueL_dec (by omega) (by omega)]
    simp; omega
  · rw [numL_pos (by omega), if_neg (dec_head45 _), valueL_dec (by omega) (by omega)]
theorem signedL_inv {l : List Int} {n : Int} (h : signedL l = (n, true)) : l = numL n ∧ -10000000000000 < n ∧ n < 10000000000000 := by
  unfold signedL at h
  by_cases g : l.head? = some 45
  · rw [if_pos g] at h
    obtain ⟨D, rfl⟩ : ∃ D, l = 45 :: D := by
      cases l with
      | nil => simp at g
      | cons c D => simp only [List.head?_cons, Option.some.injEq] at g; subst g; exact ⟨D, rfl⟩
    simp only [List.tail_cons, Prod.mk.injEq, Bool.and_eq_true, decide_eq_true_eq] at h
    obtain ⟨h1, h2, h3⟩ := h
    have hv := valueL_inv (l := D) (n := (valueL D).1) (by rw [← h2])
    have h4 := of_decide_eq_true h3
    rw [numL_neg (show n < 0 by omega), show -n = (valueL D).1 by omega, ← hv.1]
    exact ⟨rfl, by omega, by omega⟩
  · rw [if_neg g] at h
    have hv := valueL_inv h
    rw [numL_pos hv.2.1]
    exact ⟨hv.1, by omega, by omega⟩
theorem valueL_of {l : List Int} (h : ∀ c ∈ l, Dig c) (h1 : 1 ≤ l.length) (h2 : l.length ≤ 13) (hz : l.head? = some 48 → l.length = 1) : valueL l = (val l, true) := by
  unfold valueL
  rw [if_neg (by omega), if_pos (allDig_iff.2 h), decide_eq_true (dec_val l h (by intro e; subst e; simp at h1) hz).1]

/-! ### splitting -/
def splB (b : Int) (s : ByteArray) : List ByteArray := (spl b [] (bytesOf s)).map strOfNums
theorem cur_ext (s : ByteArray) (f i : Nat) : strOfNums (((bytesOf s).take i).drop f) = s.extract f i := by
  rw [← bo_ext, of_bo]
theorem spl_len (b : Int) : ∀ (l cur : List Int), (spl b cur l).length ≤ l.length + 1
  | [], cur => by simp [spl]
  | c :: l, cur => by
    unfold spl
    split
    · have := spl_len b l []
      simp only [List.length_cons]; omega
    · have := spl_len b l (cur ++ [c])
      simp only [List.length_cons]; omega
theorem impl_splitAt_l0 (s : ByteArray) (b : Int) (hs : s.size ≤ 1000000) : ∀ (R : List Int) (i f : Nat) (out : List ByteArray), (bytesOf s).drop i = R → i ≤ s.size → f ≤ i → out.length ≤ i →
    Ev (fun k => impl_splitAt.l0 k s b out f i) (out ++ (spl b (((bytesOf s).take i).drop f) R).map strOfNums) := by
  intro R
  induction R with
  | nil =>
    intro i f out h hi hf ho
    have h1 := bo_drop_nil h
    refine Ev.step (fun k => impl_splitAt.l0.eq_2 ..) (ev_neg (by omega) (ev_pos (by omega) (ev_pos (by omega) (ev_pos (by omega) (ev_ret ?_)))))
    rw [spl.eq_1, List.map_singleton, cur_ext, Int.toNat_natCast, show i = s.size by omega]
  | cons c R ih =>
    intro i f out h hi hf ho
    obtain ⟨h1, h2, h3⟩ := bt_drop h
    refine Ev.step (fun k => impl_splitAt.l0.eq_2 ..) (ev_pos (by omega) (ev_pos (by omega) ?_))
    rw [h2, w64 (n := (i : Int) + 1) (by omega) (by omega), spl.eq_2]
    by_cases a : c = b
    · refine ev_pos a (ev_pos (by omega) (ev_pos (by omega) (ev_pos (by omega) (ev_pos (by omega) ?_))))
      rw [if_pos a, List.map_cons, cur_ext]
      have := ih (i + 1) (i + 1) (out ++ [s.extract f i]) h3 (by omega) (by omega) (by simp; omega)
      rw [List.drop_eq_nil_of_le (by rw [List.length_take]; omega), List.append_assoc] at this
      exact this
    · refine ev_neg a ?_
      rw [if_neg a]
      have := ih (i + 1) f out h3 (by omega) (by omega) (by omega)
      rw [snoc_take h, List.drop_append_of_le_length (by rw [List.length_take, bytesOf_length]; omega)] at this
      exact this
theorem impl_splitAt_ev (s : ByteArray) (b : Int) (hs : s.size ≤ 1000000) : Ev (fun k => impl_splitAt.f k s b) (splB b s) := by
  have := impl_splitAt_l0 s b hs (bytesOf s) 0 0 [] rfl (by omega) (by omega) (by simp)
  have h : Ev (fun k => impl_splitAt.l0 k s b [] 0 0) (splB b s) := by simpa [splB] using this
  exact h
theorem spec_l01Split_end (s : ByteArray) (b : Int) (out : List ByteArray) (hs : s.size ≤ 1000000) : Ev (fun k => spec_l01Split.l0 k s b out ((s.size + 1 : Nat) : Int) ((s.size + 1 : Nat) : Int)) out :=
  Ev.step (fun k => spec_l01Split.l0.eq_2 ..) (ev_neg (by omega) (Ev.now _))
theorem spec_l01Split_l0 (s : ByteArray) (b : Int) (hs : s.size ≤ 1000000) : ∀ (R : List Int) (i f : Nat) (out : List ByteArray), (bytesOf s).drop i = R → i ≤ s.size → f ≤ i → out.length ≤ i →
    Ev (fun k => spec_l01Split.l0 k s b out f i) (out ++ (spl b (((bytesOf s).take i).drop f) R).map strOfNums) := by
  intro R
  induction R with
  | nil =>
    intro i f out h hi hf ho
    have h1 := bo_drop_nil h
    refine Ev.step (fun k => spec_l01Split.l0.eq_2 ..) (ev_pos (by omega) (ev_pos (by omega) (ev_pos (by omega) (ev_pos (by omega) (ev_pos (by omega) ?_)))))
    rw [spl.eq_1, List.map_singleton, cur_ext, w64 (n := (i : Int) + 1) (by omega) (by omega), show (i : Int) + 1 = ((s.size + 1 : Nat) : Int) by omega, Int.toNat_natCast, Int.toNat_natCast]
    exact spec_l01Split_end s b _ hs
  | cons c R ih =>
    intro i f out h hi hf ho
    obtain ⟨h1, h2, h3⟩ := bt_drop h
    refine Ev.step (fun k => spec_l01Split.l0.eq_2 ..) (ev_pos (by omega) (ev_neg (by omega) (ev_pos (by omega) (ev_pos (by omega) ?_))))
    rw [h2, w64 (n := (i : Int) + 1) (by omega) (by omega), spl.eq_2]
    by_cases a : c = b
    · refine ev_pos a (ev_pos (by omega) (ev_pos (by omega) (ev_pos (by omega) ?_)))
      rw [if_pos a, List.map_cons, cur_ext]
      have := ih (i + 1) (i + 1) (out ++ [s.extract f i]) h3 (by omega) (by omega) (by simp; omega)
      rw [List.drop_eq_nil_of_le (by rw [List.length_take]; omega), List.append_assoc] at this
      exact this
    · refine ev_neg a ?_
      rw [if_neg a]
      have := ih (i + 1) f out h3 (by omega) (by omega) (by omega)
      rw [snoc_take h, List.drop_append_of_le_length (by rw [List.length_take, bytesOf_length]; omega)] at this
      exact this
theorem spec_l01Split_ev (s : ByteArray) (b : Int) (hs : s.size ≤ 1000000) : Ev (fun k => spec_l01Split.f k s b) (splB b s) := by
  have := spec_l01Split_l0 s b hs (bytesOf s) 0 0 [] rfl (by omega) (by omega) (by simp)
  have h : Ev (fun k => spec_l01Split.l0 k s b [] 0 0) (splB b s) := by simpa [splB] using this
  exact h
theorem spl_byte (b : Int) : ∀ (l cur : List Int), (∀ c ∈ cur, byte c) → (∀ c ∈ l, byte c) → ∀ w ∈ spl b cur l, ∀ c ∈ w, byte c
  | [], cur, h, _, w, hw, c, hc => by
    simp only [spl, List.mem_singleton] at hw; subst hw; exact h c hc
  | d :: l, cur, h, k, w, hw, c, hc => by
    unfold spl at hw
    split at hw
    · rcases List.mem_cons.1 hw with rfl | hw
      · exact h c hc
      · exact spl_byte b l [] (by simp) (fun x hx => k x (by simp [hx])) w hw c hc
    · refine spl_byte b l _ ?_ (fun x hx => k x (by simp [hx])) w hw c hc
      intro x hx
      rcases List.mem_append.1 hx with hx | hx
      · exact h x hx
      · simp only [List.mem_singleton] at hx; subst hx; exact k x (by simp)
theorem splB_bo (b : Int) (s : ByteArray) : (splB b s).map bytesOf = spl b [] (bytesOf s) := by
  unfold splB
  rw [List.map_map]
  conv => rhs; rw [← List.map_id (spl b [] (bytesOf s))]
  apply List.map_congr_left
  intro w hw
  exact bo_of w (spl_byte b (bytesOf s) [] (by simp) (bo_byte s) w hw)
theorem splB_len (b : Int) (s : ByteArray) : (splB b s).length ≤ s.size + 1 := by
  unfold splB
  rw [List.length_map]
  have := spl_len b (bytesOf s) []
  rwa [bytesOf_length] at this
theorem spl_word_len (b : Int) : ∀ (l cur : List Int), ∀ w ∈ spl b cur l, w.length ≤ cur.length + l.length
  | [], cur, w, hw => by simp only [spl, List.mem_singleton] at hw; subst hw; simp
  | d :: l, cur, w, hw => by
    unfold spl at hw
    split at hw
    · rcases List.mem_cons.1 hw with rfl | hw
      · simp
      · have := spl_word_len b l [] w hw
        simp at this ⊢; omega
    · have := spl_word_len b l _ w hw
      simp at this ⊢; omega
theorem splB_size (b : Int) (s : ByteArray) : ∀ w ∈ splB b s, w.size ≤ s.size := by
  intro w hw
  have h1 : bytesOf w ∈ spl b [] (bytesOf s) := by rw [← splB_bo]; exact List.mem_map_of_mem hw
  have h2 := spl_word_len b (bytesOf s) [] _ h1
  rw [bytesOf_length, bytesOf_length] at h2
  simpa using h2

/-! ### lists of numbers, read -/
/-- these words are these numbers' texts -/
def AreNums : List (List Int) → List Int → Prop
  | [], [] => True
  | w :: ws, n :: ns => w = numL n ∧ (-1000000000000 ≤ n ∧ n ≤ 1000000000000) ∧ AreNums ws ns
  | _, _ => False
theorem numL_inj {m n : Int} (hm : -1000000000000 ≤ m ∧ m ≤ 1000000000000) (hn : -1000000000000 ≤ n ∧ n ≤ 1000000000000) (h : numL m = numL n) : m = n := by
  have h1 := readD_numL (n := m) (by omega) (by omega)
  rw [h, readD_numL (n := n) (by omega) (by omega)] at h1
  exact (Prod.mk.inj h1).1.symm
theorem numL_inj' {m n : Int} (hm : -100000000000000 ≤ m ∧ m ≤ 100000000000000) (hn : -100000000000000 ≤ n ∧ n ≤ 100000000000000) (h : numL m = numL n) : m = n := by
  have h1 := readD_numL (n := m) (by omega) (by omega)
  rw [h, readD_numL (n := n) (by omega) (by omega)] at h1
  exact (Prod.mk.inj h1).1.symm
theorem map_numL_inj : ∀ (a b : List Int), (∀ n ∈ a, -100000000000000 ≤ n ∧ n ≤ 100000000000000) → (∀ n ∈ b, -100000000000000 ≤ n ∧ n ≤ 100000000000000) → a.map numL = b.map numL → a = b
  | [], [], _, _, _ => rfl
  | [], _ :: _, _, _, h => by simp at h
  | _ :: _, [], _, _, h => by simp at h
  | m :: a, n :: b, ha, hb, h => by
    rw [List.map_cons, List.map_cons, List.cons.injEq] at h
    rw [numL_inj' (ha m (by simp)) (hb n (by simp)) h.1, map_numL_inj a b (fun x hx => ha x (by simp [hx])) (fun x hx => hb x (by simp [hx])) h.2]
theorem areNums_uniq : ∀ (ws : List (List Int)) (a b : List Int), AreNums ws a → AreNums ws b → a = b
  | [], [], [], _, _ => rfl
  | w :: ws, m :: a, n :: b, ⟨h1, h2, h3⟩, ⟨k1, k2, k3⟩ => by rw [numL_inj h2 k2 (h1.symm.trans k1), areNums_uniq ws a b h3 k3]
  | [], _ :: _, _, h, _ => h.elim
  | [], [], _ :: _, _, k => k.elim
  | _ :: _, [], _, h, _ => h.elim
  | _ :: _, _ :: _, [], _, k => k.elim
theorem areNums_len : ∀ (ws : List (List Int)) (a : List Int), AreNums ws a → a.length = ws.length
  | [], [], _ => rfl
  | _ :: ws, _ :: a, ⟨_, _, h⟩ => by rw [List.length_cons, List.length_cons, areNums_len ws a h]
  | [], _ :: _, h => h.elim
  | _ :: _, [], h => h.elim
theorem areNums_val : ∀ (ws : List (List Int)) (a : List Int), AreNums ws a → ∀ n ∈ a, -1000000000000 ≤ n ∧ n ≤ 1000000000000
  | [], [], _, n, hn => by simp at hn
  | _ :: ws, m :: a, ⟨_, h1, h⟩, n, hn => by
    rcases List.mem_cons.1 hn with rfl | hn
    · exact h1
    · exact areNums_val ws a h n hn
  | [], _ :: _, h, _, _ => h.elim
  | _ :: _, [], h, _, _ => h.elim
theorem areNums_map : ∀ (a : List Int), (∀ n ∈ a, -1000000000000 ≤ n ∧ n ≤ 1000000000000) → AreNums (a.map numL) a
  | [], _ => trivial
  | n :: a, h => ⟨rfl, h n (by simp), areNums_map a (fun m hm => h m (by simp [hm]))⟩
theorem areNums_words : ∀ (ws : List (List Int)) (a : List Int), AreNums ws a → ws = a.map numL
  | [], [], _ => rfl
  | w :: ws, n :: a, ⟨h, _, k⟩ => by rw [List.map_cons, ← h, ← areNums_words ws a k]
  | [], _ :: _, h => h.elim
  | _ :: _, [], h => h.elim
/-- both answer this -/
def ReadLs (l : List Int) (r : List Int × Int) : Prop :=
  (l = [45] ∧ r = ([], 0)) ∨ (l ≠ [45] ∧ ((∃ a, (spl 44 [] l).length ≤ 60 ∧ AreNums (spl 44 [] l) a ∧ r = (a, 0)) ∨ ((∀ a, ¬ ((spl 44 [] l).length ≤ 60 ∧ AreNums (spl 44 [] l) a)) ∧ r = ([], 6))))
theorem readLs_uniq {l : List Int} {a b : List Int × Int} (h : ReadLs l a) (k : ReadLs l b) : a = b := by
  rcases h with ⟨h1, rfl⟩ | ⟨h1, h⟩ <;> rcases k with ⟨k1, rfl⟩ | ⟨k1, k⟩
  · rfl
  · exact absurd h1 k1
  · exact absurd k1 h1
  · rcases h with ⟨x, h2, h3, rfl⟩ | ⟨h2, rfl⟩ <;> rcases k with ⟨y, k2, k3, rfl⟩ | ⟨k2, rfl⟩
    · rw [areNums_uniq _ x y h3 k3]
    · exact absurd ⟨h2, h3⟩ (k2 x)
    · exact absurd ⟨k2, k3⟩ (h2 y)
    · rfl
theorem dash_iff (s : ByteArray) : s.toList = ([45] : List UInt8) ↔ bytesOf s = [45] := by
  constructor
  · intro h
    have e : s = ⟨#[45]⟩ := by
      apply toList_eq.1
      rw [h, ByteArray.toList_eq]
    rw [e]; rfl
  · intro h
    have e : s = ⟨#[45]⟩ := bo_inj (by rw [h]; rfl)
    rw [e, ByteArray.toList_eq]
theorem spec_l01Numbers_l0 (ws : List ByteArray) (hl : ws.length ≤ 1000001) (hz : ∀ w ∈ ws, w.size ≤ 1000000) : ∀ (R : List ByteArray) (i : Nat) (out : List Int), ws.drop i = R → out.length ≤ i →
    ∃ r, Ev (fun k => spec_l01Numbers.l0 k ws out i) r ∧ ((∃ a, r = (out ++ a, true) ∧ a.length = R.length ∧ R.map bytesOf = a.map numL ∧ ∀ n ∈ a, -100000000000000 ≤ n ∧ n ≤ 100000000000000) ∨ (r = ([], false) ∧ ∀ a, ¬ AreNums (R.map bytesOf) a)) := by
  intro R
  induction R with
  | nil =>
    intro i out h ho
    have h1 := drop_nil h
    exact ⟨(out, true), Ev.step (fun k => spec_l01Numbers.l0.eq_2 ..) (ev_neg (by omega) (Ev.now _)), .inl ⟨[], by simp, rfl, rfl, by simp⟩⟩
  | cons w R ih =>
    intro i out h ho
    obtain ⟨h1, h2, h3⟩ := rdOf_drop (d := ByteArray.empty) h
    have hw : w ∈ ws := by
      have : w ∈ ws.drop i := by rw [h]; simp
      exact List.mem_of_mem_drop this
    have hr := spec_l01Signed_ev w (by have := hz w hw; omega)
    by_cases a : (signedL (bytesOf w)).2 = true
    · have e : signedL (bytesOf w) = ((signedL (bytesOf w)).1, true) := by rw [← a]
      have hi := signedL_inv e
      obtain ⟨r, er, hrr⟩ := ih (i + 1) (out ++ [(signedL (bytesOf w)).1]) h3 (by simp; omega)
      refine ⟨r, Ev.step (fun k => spec_l01Numbers.l0.eq_2 ..) (ev_pos (by omega) (ev_pos (by omega) ?_)), ?_⟩
      · rw [h2, w64 (n := (i : Int) + 1) (by omega) (by omega)]
        exact hr.bind (ev_pos a (ev_pos (by omega) er))
      · rcases hrr with ⟨x, rfl, hx, hx', hb⟩ | ⟨rfl, hx⟩
        · refine .inl ⟨(signedL (bytesOf w)).1 :: x, by simp, by simp [hx], by rw [List.map_cons, List.map_cons, hx', ← hi.1], fun n hn => ?_⟩
          rcases List.mem_cons.1 hn with rfl | hn
          · omega
          · exact hb n hn
        · refine .inr ⟨rfl, fun x hx' => ?_⟩
          cases x with
          | nil => exact hx'
          | cons n x => exact hx x hx'.2.2
    · refine ⟨([], false), Ev.step (fun k => spec_l01Numbers.l0.eq_2 ..) (ev_pos (by omega) (ev_pos (by omega) ?_)), .inr ⟨rfl, fun x hx' => ?_⟩⟩
      · rw [h2]
        exact hr.bind (ev_neg a (Ev.now _))
      · cases x with
        | nil => exact hx'
        | cons n x =>
          obtain ⟨k1, k2, _⟩ := hx'
          have := signedL_num (n := n) (by omega) (by omega)
          rw [← k1] at this
          rw [this] at a
          exact a rfl
def valuesM (l : List Int) : Int := if (∀ n ∈ l, -1000000000000 ≤ n ∧ n ≤ 1000000000000) then (if l.length > 60 then 3 else 0) else 2
/-! ### a fraction read -/
def ReadR (l : List Int) (r : Int × Int × Int) : Prop :=
  (∃ n d, RatioB n d = true ∧ l = fracL n d ∧ r = (n, d, 0)) ∨ ((∀ n d, RatioB n d = true → l ≠ fracL n d) ∧ r = (0, 0, 6))
theorem slash_numL (n : Int) : (47 : Int) ∉ numL n := by
  intro h
  by_cases a : n < 0
  · rw [numL_neg a] at h
    rcases List.mem_cons.1 h with h | h
    · omega
    · have := dec_dig _ _ h
      unfold Dig at this; omega
  · rw [numL_pos (by omega)] at h
    have := dec_dig _ _ h
    unfold Dig at this; omega
theorem fracL_joi (n d : Int) : fracL n d = joi 47 [numL n, numL d] := by
  rw [joi_cons 47 _ (by simp)]
  unfold fracL joi
  simp
theorem spl_fracL (n d : Int) : spl 47 [] (fracL n d) = [numL n, numL d] := by
  rw [fracL_joi]
  exact spl_joi 47 _ (by simp) (fun w hw => by
    simp only [List.mem_cons, List.not_mem_nil, or_false] at hw
    rcases hw with rfl | rfl <;> exact slash_numL _)
theorem fracL_inj {a b c d : Int} (h : RatioB a b = true) (k : RatioB c d = true) (e : fracL a b = fracL c d) : a = c ∧ b = d := by
  have e' := congrArg (spl 47 []) e
  rw [spl_fracL, spl_fracL] at e'
  obtain ⟨h1, h2, _⟩ := ratioB_true h
  obtain ⟨k1, k2, _⟩ := ratioB_true k
  simp only [List.cons.injEq, and_true] at e'
  exact ⟨numL_inj' (by omega) (by omega) e'.1, numL_inj' (by omega) (by omega) e'.2⟩
theorem readR_uniq {l : List Int} {a b : Int × Int × Int} (h : ReadR l a) (k : ReadR l b) : a = b := by
  rcases h with ⟨n, d, h1, h2, rfl⟩ | ⟨h1, rfl⟩ <;> rcases k with ⟨m, e, k1, k2, rfl⟩ | ⟨k1, rfl⟩
  · obtain ⟨rfl, rfl⟩ := fracL_inj h1 k1 (h2.symm.trans k2); rfl
  · exact absurd h2 (k1 _ _ h1)
  · exact absurd k2 (h1 _ _ k1)
  · rfl
theorem impl_ReadRatio_ev (s : ByteArray) (hs : s.size ≤ 1000000) : ∃ r, Ev (fun k => impl_ReadRatio.f k s) r ∧ ReadR (bytesOf s) r := by
  have hb := splB_bo 47 s
  have hj := joi_spl 47 (bytesOf s) []
  have hz := splB_size 47 s
  have h := impl_splitAt_ev s 47 hs
  have no2 : (splB 47 s).length ≠ 2 → ∀ n d, RatioB n d = true → bytesOf s ≠ fracL n d := by
    intro hl n d _ e
    rw [e, spl_fracL] at hb
    have := congrArg List.length hb
    rw [List.length_map] at this
    exact hl this
  have yes : ∀ n d, RatioB n d = true → bytesOf s = fracL n d → (splB 47 s).map bytesOf = [numL n, numL d] := by
    intro n d _ e
    rw [hb, e, spl_fracL]
  by_cases a : ((splB 47 s).length : Int) = 2
  · obtain ⟨u, v, e⟩ : ∃ u v, splB 47 s = [u, v] := by
      match hq : splB 47 s with
      | [u, v] => exact ⟨u, v, rfl⟩
      | [] => rw [hq] at a; simp at a
      | [_] => rw [hq] at a; simp at a
      | _ :: _ :: _ :: _ => rw [hq] at a; simp at a; omega
    rw [e] at h hb hz yes
    have hu := hz u (by simp)
    have hv := hz v (by simp)
    have ru := impl_readDecimal_ev u (by omega)
    have rv := impl_readDecimal_ev v (by omega)
    have bytes : bytesOf s = bytesOf u ++ 47 :: bytesOf v := by
      rw [← hb] at hj
      simp only [List.map_cons, List.map_nil, List.nil_append] at hj
      rw [joi_cons 47 _ (by simp)] at hj
      exact hj.symm
    have go : ∀ r, Ev (fun k => if (readD (bytesOf u)).2 = true then (if (readD (bytesOf v)).2 = true then ((impl_IsRatio.f k (readD (bytesOf u)).1 (readD (bytesOf v)).1).bind fun t173 => (if t173 = true then (some ((readD (bytesOf u)).1, (readD (bytesOf v)).1, (0 : Int))) else (some (0, 0, 6)))) else (some (0, 0, 6))) else (some (0, 0, 6))) r → Ev (fun k => impl_ReadRatio.f k s) r := by
      intro r hr
      exact h.bind (ev_pos rfl (ev_pos (by simp) (ru.bind (ev_pos (by simp) (rv.bind hr)))))
    have inv : ∀ n d, RatioB n d = true → bytesOf s = fracL n d → readD (bytesOf u) = (n, true) ∧ readD (bytesOf v) = (d, true) := by
      intro n d hr e2
      have e3 := yes n d hr e2
      simp only [List.map_cons, List.map_nil, List.cons.injEq, and_true] at e3
      obtain ⟨h1, h2, _⟩ := ratioB_true hr
      rw [e3.1, e3.2]
      exact ⟨readD_numL (by omega) (by omega), readD_numL (by omega) (by omega)⟩
    by_cases c : (readD (bytesOf u)).2 = true
    · by_cases d : (readD (bytesOf v)).2 = true
      · have eu : readD (bytesOf u) = ((readD (bytesOf u)).1, true) := by rw [← c]
        have ev : readD (bytesOf v) = ((readD (bytesOf v)).1, true) := by rw [← d]
        by_cases f : RatioB (readD (bytesOf u)).1 (readD (bytesOf v)).1 = true
        · refine ⟨_, go _ (ev_pos c (ev_pos d ((impl_IsRatio_ev _ _).bind (ev_pos f (Ev.now _))))), .inl ⟨_, _, f, ?_, rfl⟩⟩
          rw [bytes, (readD_inv eu).1, (readD_inv ev).1]
          have eu' := readD_numL (readD_inv eu).2.1 (readD_inv eu).2.2
          have ev' := readD_numL (readD_inv ev).2.1 (readD_inv ev).2.2
          unfold fracL
          rw [eu', ev']
          simp
        · refine ⟨_, go _ (ev_pos c (ev_pos d ((impl_IsRatio_ev _ _).bind (ev_neg f (Ev.now _))))), .inr ⟨fun n m hr e2 => ?_, rfl⟩⟩
          obtain ⟨i1, i2⟩ := inv n m hr e2
          rw [i1, i2] at f
          exact f hr
      · refine ⟨_, go _ (ev_pos c (ev_neg d (Ev.now _))), .inr ⟨fun n m hr e2 => ?_, rfl⟩⟩
        rw [(inv n m hr e2).2] at d
        exact d rfl
    · refine ⟨_, go _ (ev_neg c (Ev.now _)), .inr ⟨fun n m hr e2 => ?_, rfl⟩⟩
      rw [(inv n m hr e2).1] at c
      exact c rfl
  · exact ⟨_, h.bind (ev_neg a (Ev.now _)), .inr ⟨no2 (by omega), rfl⟩⟩
theorem spec_ReadRatio_ev (s : ByteArray) (hs : s.size ≤ 1000000) : ∃ r, Ev (fun k => spec_ReadRatio.f k s) r ∧ ReadR (bytesOf s) r := by
  have hb := splB_bo 47 s
  have hj := joi_spl 47 (bytesOf s) []
  have hl := splB_len 47 s
  have h := spec_l01Split_ev s 47 hs
  obtain ⟨r, er, hr⟩ := spec_l01Numbers_l0 (splB 47 s) (by omega) (fun w hw => by have := splB_size 47 s w hw; omega) (splB 47 s) 0 [] rfl (by simp)
  have er' : Ev (fun k => spec_l01Numbers.f k (splB 47 s)) r := er
  rw [hb] at hr
  rcases hr with ⟨x, rfl, hx, hw, hxb⟩ | ⟨rfl, hx⟩
  · rw [List.nil_append] at er'
    have yes : ∀ n d, RatioB n d = true → bytesOf s = fracL n d → x = [n, d] := by
      intro n d hr e
      rw [e, spl_fracL] at hw
      obtain ⟨h1, h2, _⟩ := ratioB_true hr
      exact (map_numL_inj [n, d] x (fun m hm => by
        simp only [List.mem_cons, List.not_mem_nil, or_false] at hm
        rcases hm with rfl | rfl <;> omega) hxb hw).symm
    by_cases a : x.length = 2
    · obtain ⟨n, d, rfl⟩ : ∃ n d, x = [n, d] := by
        match x, a with
        | [u, v], _ => exact ⟨u, v, rfl⟩
      have e : bytesOf s = fracL n d := by
        rw [hw] at hj
        rw [fracL_joi]
        exact hj.symm
      have go : ∀ r, Ev (fun k => (spec_IsRatio.f k n d).bind fun t150 => (if t150 = true then (some (n, d, (0 : Int))) else (some (0, 0, 6)))) r → Ev (fun k => spec_ReadRatio.f k s) r := by
        intro r hr
        exact h.bind (er'.bind (ev_pos rfl (Ev.step (fun k => spec_ReadRatio.j0.eq_2 ..) (ev_neg (by simp) (ev_pos (by simp) (ev_pos (by simp) hr))))))
      by_cases f : RatioB n d = true
      · exact ⟨_, go _ ((spec_IsRatio_ev n d).bind (ev_pos f (Ev.now _))), .inl ⟨n, d, f, e, rfl⟩⟩
      · refine ⟨_, go _ ((spec_IsRatio_ev n d).bind (ev_neg f (Ev.now _))), .inr ⟨fun n' d' hr e2 => f ?_, rfl⟩⟩
        have := yes n' d' hr e2
        simp only [List.cons.injEq, and_true] at this
        rw [this.1, this.2]; exact hr
    · refine ⟨_, h.bind (er'.bind (ev_pos rfl (Ev.step (fun k => spec_ReadRatio.j0.eq_2 ..) (ev_pos (by simp; omega) (Ev.now _))))), .inr ⟨fun n' d' hr e2 => a ?_, rfl⟩⟩
      rw [yes n' d' hr e2]; rfl
  · refine ⟨_, h.bind (er'.bind (ev_neg (by simp) (Ev.step (fun k => spec_ReadRatio.j0.eq_2 ..) (ev_pos rfl (Ev.now _))))), .inr ⟨fun n' d' hr e2 => hx [n', d'] ?_, rfl⟩⟩
    rw [e2, spl_fracL]
    obtain ⟨h1, h2, _⟩ := ratioB_true hr
    exact ⟨rfl, by omega, rfl, by omega, trivial⟩
theorem ReadRatio_both (s : ByteArray) (hs : s.size ≤ 1000000) : ∃ r, Ev (fun k => impl_ReadRatio.f k s) r ∧ Ev (fun k => spec_ReadRatio.f k s) r ∧ ReadR (bytesOf s) r := by
  obtain ⟨a, ha, ha'⟩ := impl_ReadRatio_ev s hs
  obtain ⟨b, hb, hb'⟩ := spec_ReadRatio_ev s hs
  obtain rfl := readR_uniq ha' hb'
  exact ⟨a, ha, hb, ha'⟩

/-! ### numbers that follow from a code -/
def Code (c : List Int) : Prop := (∀ x ∈ c, 0 ≤ x ∧ x ≤ 255) ∧ c.length ≤ 5000
def Src (c : List Int) (a s : Int) : Prop := Code c ∧ (0 ≤ a ∧ a ≤ c.length) ∧ 0 ≤ s ∧ s < 2147483647
theorem rd_code {c : List Int} (h : Code c) {i : Int} (h0 : 0 ≤ i) (h1 : i < c.length) : 0 ≤ rd c i ∧ rd c i ≤ 255 := by
  unfold rd
  have hi : i.toNat < c.length := by omega
  rw [List.getD_eq_getElem?_getD, List.getElem?_eq_getElem hi]
  exact h.1 _ (List.getElem_mem hi)
theorem tmod_nn {a b : Int} (ha : 0 ≤ a) : Int.tmod a b = a % b := Int.tmod_eq_emod_of_nonneg ha
theorem tmod_in {a b : Int} (ha : 0 ≤ a) (hb : 0 < b) : 0 ≤ Int.tmod a b ∧ Int.tmod a b < b := by
  rw [tmod_nn ha]
  exact ⟨Int.emod_nonneg a (by omega), Int.emod_lt_of_pos a hb⟩
theorem l01Next_some {c : List Int} {a s n : Int} (h : Src c a s) (hn : n ≤ 4611686018427387904) : ∃ x a' s', spec_l01Next.f c a s n = some (x, a', s') ∧ Src c a' s' ∧ 0 ≤ x ∧ (1 ≤ n → x < n) ∧ (n ≤ 1 → x = 0) := by
  obtain ⟨hc, ⟨a0, a1⟩, s0, s1⟩ := h
  have hl := hc.2
  unfold spec_l01Next.f
  by_cases g : n ≤ 1
  · rw [if_pos g]
    exact ⟨0, a, s, rfl, ⟨hc, ⟨a0, a1⟩, s0, s1⟩, by omega, by omega, by omega⟩
  · rw [if_neg g]
    have e1 : wrap64 ((wrap64 (s * 48271)) + 29) = s * 48271 + 29 := by
      rw [w64 (n := s * 48271) (by omega) (by omega), w64 (by omega) (by omega)]
    have e2 := tmod_in (a := s * 48271 + 29) (b := 2147483647) (by omega) (by omega)
    rw [e1]
    generalize Int.tmod (s * 48271 + 29) 2147483647 = s' at *
    have e3 : wrap64 (Int.tdiv s' 31) = s' / 31 := by rw [Int.tdiv_eq_ediv_of_nonneg (by omega), w64 (by omega) (by omega)]
    rw [e3]
    by_cases g1 : a < (c.length : Int)
    · have hr := rd_code hc a0 g1
      rw [if_pos g1, if_pos a0, w64 (n := a + 1) (by omega) (by omega), w64 (n := a + 1 - 1) (by omega) (by omega), show a + 1 - 1 = a by omega, w64 (n := rd c a) (by omega) (by omega), w64 (n := s' / 31 + rd c a) (by omega) (by omega)]
      have t1 := tmod_in (a := rd c a) (b := n) (by omega) (by omega)
      have t2 := tmod_in (a := s' / 31 + rd c a) (b := n) (by omega) (by omega)
      have fin : Src c (a + 1) s' := ⟨hc, ⟨by omega, by omega⟩, e2⟩
      by_cases g2 : n ≤ 256
      · rw [if_pos g2]
        by_cases g3 : Int.tmod (a + 1) 2 = 0
        · rw [if_pos g3, if_pos a0, if_pos g1, if_neg (by omega)]
          exact ⟨_, _, _, rfl, fin, t1.1, fun _ => t1.2, by omega⟩
        · rw [if_neg g3, if_neg (by omega)]
          exact ⟨_, _, _, rfl, fin, t2.1, fun _ => t2.2, by omega⟩
      · rw [if_neg g2, if_neg (by omega)]
        exact ⟨_, _, _, rfl, fin, t2.1, fun _ => t2.2, by omega⟩
    · have t2 := tmod_in (a := s' / 31) (b := n) (by omega) (by omega)
      rw [if_neg g1, if_neg (by omega)]
      exact ⟨_, _, _, rfl, ⟨hc, ⟨a0, a1⟩, e2⟩, t2.1, fun _ => t2.2, by omega⟩
theorem l01Pick_some {c : List Int} {a s : Int} (h : Src c a s) {l : List Int} (hl : 1 ≤ l.length) (hl' : l.length ≤ 1000) : ∃ x a' s', spec_l01Pick.f c a s l = some (x, a', s') ∧ Src c a' s' ∧ x ∈ l := by
  obtain ⟨x, a', s', e, h', x0, x1, _⟩ := l01Next_some h (n := (l.length : Int)) (by omega)
  have x2 := x1 (by omega)
  unfold spec_l01Pick.f
  rw [e, Option.bind_some, if_pos x0, if_pos x2]
  refine ⟨_, _, _, rfl, h', ?_⟩
  unfold rd
  have hi : x.toNat < l.length := by omega
  rw [List.getD_eq_getElem?_getD, List.getElem?_eq_getElem hi]
  exact List.getElem_mem hi
theorem l01From_l0 {c : List Int} (hc : Code c) : ∀ (d : Nat) (i : Int) (s : Int), 64 - i = d → 0 ≤ i → 0 ≤ s → s < 2147483647 → ∃ s', Ev (fun k => spec_l01From.l0 k c i c 0 s) (c, 0, s') ∧ Src c 0 s' := by
  intro d
  have hl := hc.2
  induction d with
  | zero =>
    intro i s hd h0 s0 s1
    refine ⟨s, Ev.step (fun k => spec_l01From.l0.eq_2 ..) ?_, hc, ⟨by omega, by omega⟩, s0, s1⟩
    by_cases g : i < (c.length : Int)
    · exact ev_pos g (ev_neg (by omega) (Ev.now _))
    · exact ev_neg g (Ev.now _)
  | succ d ih =>
    intro i s hd h0 s0 s1
    by_cases g : i < (c.length : Int)
    · have hr := rd_code hc h0 g
      have e1 : wrap64 ((wrap64 (s * 83)) + (wrap64 (rd c i))) = s * 83 + rd c i := by
        rw [w64 (n := s * 83) (by omega) (by omega), w64 (n := rd c i) (by omega) (by omega), w64 (by omega) (by omega)]
      have e2 := tmod_in (a := s * 83 + rd c i) (b := 2147483647) (by omega) (by omega)
      obtain ⟨s', hs, h⟩ := ih (i + 1) (Int.tmod (s * 83 + rd c i) 2147483647) (by omega) (by omega) e2.1 e2.2
      refine ⟨s', Ev.step (fun k => spec_l01From.l0.eq_2 ..) (ev_pos g (ev_pos (by omega) (ev_pos h0 ?_))), h⟩
      rw [e1, w64 (by omega) (by omega)]
      exact hs
    · exact ⟨s, Ev.step (fun k => spec_l01From.l0.eq_2 ..) (ev_neg g (Ev.now _)), hc, ⟨by omega, by omega⟩, s0, s1⟩
theorem l01From_ev {c : List Int} (hc : Code c) : ∃ s, Ev (fun k => spec_l01From.f k c) (c, 0, s) ∧ Src c 0 s :=
  l01From_l0 hc 64 0 61043 (by omega) (by omega) (by omega) (by omega)
/-! ### dice -/
def Dice (c : List Int) (i h : Int) : Prop := Code c ∧ (0 ≤ i ∧ i ≤ c.length) ∧ 0 ≤ h ∧ h ≤ 18446744073709551615
theorem u64w (n : Int) : 0 ≤ IntKind.u64.wrap n ∧ IntKind.u64.wrap n ≤ 18446744073709551615 := by
  have e : IntKind.u64.wrap n = n % 18446744073709551616 := by rfl
  omega
theorem big_false {c : List Int} (h : ¬ (c.length : Int) > 4096) : laws_big.f c = some false := by unfold laws_big.f; simp; omega
theorem big_true {c : List Int} (h : (c.length : Int) > 4096) : laws_big.f c = some true := by unfold laws_big.f; simp; omega
theorem code_of {c : List Int} (h : ∀ x ∈ c, (Lit.int .u8 x).wf = true) (hl : ¬ (c.length : Int) > 4096) : Code c := ⟨fun x hx => bd8 (h x hx), by omega⟩

theorem tdiv_small {a b : Int} (h : -4611686018427387904 ≤ a) (h' : a ≤ 4611686018427387904) : -4611686018427387904 ≤ Int.tdiv a b ∧ Int.tdiv a b ≤ 4611686018427387904 := by
  have := Int.natAbs_tdiv_le_natAbs a b
  omega
theorem gc_pos {a b : Int} (hb : b ≠ 0) : 0 < gc a b := by
  unfold gc
  have := Nat.gcd_pos_of_pos_right a.natAbs (show 0 < b.natAbs by omega)
  omega
/-- a quotient, brought to its lowest terms; the denominator is greater than 0 -/
def mkP (n d : Int) : Int × Int × Int := if RatioB (Int.tdiv n (gc n d)) (Int.tdiv d (gc n d)) = true then (Int.tdiv n (gc n d), Int.tdiv d (gc n d), 0) else (0, 0, 3)
def mkR (n d : Int) : Int × Int × Int := if d < 0 then mkP (-n) (-d) else mkP n d
theorem spec_l02Make_j0 {n d : Int} (h : -4611686018427387904 ≤ n) (h' : n ≤ 4611686018427387904) (k : 0 < d) (k' : d ≤ 4611686018427387904) : Ev (fun k => spec_l02Make.j0 k n d) (mkP n d) := by
  have g := gc_pos (a := n) (b := d) (by omega)
  have t1 := tdiv_small (b := gc n d) h h'
  have t2 := tdiv_small (a := d) (b := gc n d) (by omega) k'
  refine Ev.step (fun k => spec_l02Make.j0.eq_2 ..) ((l01Gcd_ev h h' (by omega) k').bind (ev_neg (by omega) ?_))
  rw [w64 (n := Int.tdiv n (gc n d)) (by omega) (by omega), w64 (n := Int.tdiv d (gc n d)) (by omega) (by omega)]
  refine (spec_IsRatio_ev _ _).bind ?_
  unfold mkP
  by_cases c : RatioB (Int.tdiv n (gc n d)) (Int.tdiv d (gc n d)) = true
  · exact ev_pos c (ev_ret (by rw [if_pos c]))
  · exact ev_neg c (ev_ret (by rw [if_neg c]))
theorem spec_l02Make_ev {n d : Int} (h : -4611686018427387904 ≤ n) (h' : n ≤ 4611686018427387904) (k : -4611686018427387904 ≤ d) (k' : d ≤ 4611686018427387904) (hd : d ≠ 0) : Ev (fun k => spec_l02Make.f k n d) (mkR n d) := by
  unfold spec_l02Make.f mkR
  by_cases c : d < 0
  · refine ev_pos c ?_
    rw [w64 (by omega) (by omega), w64 (by omega) (by omega), if_pos c]
    exact spec_l02Make_j0 (by omega) (by omega) (by omega) (by omega)
  · refine ev_neg c ?_
    rw [if_neg c]
    exact spec_l02Make_j0 h h' (by omega) k'
theorem mkR_or (n d : Int) : RatioB (mkR n d).1 (mkR n d).2.1 = true ∨ mkR n d = (0, 0, 3) := by
  unfold mkR mkP
  split <;> split <;> first | (left; assumption) | (right; rfl)
theorem ratio11 : RatioB 1 1 = true := by decide
theorem ratioB_ne {n d : Int} (h : RatioB n d = true) : d ≠ 0 := by obtain ⟨_, h, _⟩ := ratioB_true h; omega
theorem l02Good_ev {c : List Int} {a s : Int} (h : Src c a s) : ∃ n d a' s', Ev (fun k => spec_l02Good.f k c a s) (n, d, a', s') ∧ Src c a' s' ∧ RatioB n d = true := by
  obtain ⟨x1, a1, s1, e1, h1, b1, c1, _⟩ := l01Next_some h (n := 81) (by omega)
  have c1 := c1 (by omega)
  obtain ⟨x2, a2, s2, e2, h2, b2, c2, _⟩ := l01Next_some h1 (n := 30) (by omega)
  have c2 := c2 (by omega)
  have m := spec_l02Make_ev (n := x1 - 40) (d := 1 + x2) (by omega) (by omega) (by omega) (by omega) (by omega)
  have mo := mkR_or (x1 - 40) (1 + x2)
  rw [← w64 (n := x1 - 40) (by omega) (by omega), ← w64 (n := 1 + x2) (by omega) (by omega)] at m mo
  obtain ⟨x3, a3, s3, e3, h3, _⟩ := l01Next_some h2 (n := 12) (by omega)
  by_cases g : x3 = 0
  · obtain ⟨x4, a4, s4, e4, h4, b4, c4, _⟩ := l01Next_some h3 (n := 1000000000) (by omega)
    have c4 := c4 (by omega)
    obtain ⟨x5, a5, s5, e5, h5, b5⟩ := l01Pick_some h4 (l := [1000000000, (-1000000000), x4]) (by simp) (by simp)
    obtain ⟨x6, a6, s6, e6, h6, b6⟩ := l01Pick_some h5 (l := [1, 999999999, 999999937]) (by simp) (by simp)
    simp only [List.mem_cons, List.not_mem_nil, or_false] at b5 b6
    have m2 := spec_l02Make_ev (n := x5) (d := x6) (by omega) (by omega) (by omega) (by omega) (by omega)
    by_cases g2 : (mkR x5 x6).2.1 = 0
    · exact ⟨_, _, _, _, ev_bind0 e1 (ev_bind0 e2 (m.bind (ev_bind0 e3 (ev_pos g (ev_bind0 e4 (ev_bind0 e5 (ev_bind0 e6 (m2.bind (ev_pos g2 (Ev.now _)))))))))), h6, ratio11⟩
    · refine ⟨_, _, _, _, ev_bind0 e1 (ev_bind0 e2 (m.bind (ev_bind0 e3 (ev_pos g (ev_bind0 e4 (ev_bind0 e5 (ev_bind0 e6 (m2.bind (ev_neg g2 (Ev.now _)))))))))), h6, ?_⟩
      rcases mkR_or x5 x6 with h | h
      · exact h
      · rw [h] at g2; exact absurd rfl g2
  · by_cases g2 : (mkR (wrap64 (x1 - 40)) (wrap64 (1 + x2))).2.1 = 0
    · exact ⟨_, _, _, _, ev_bind0 e1 (ev_bind0 e2 (m.bind (ev_bind0 e3 (ev_neg g (ev_pos g2 (Ev.now _)))))), h3, ratio11⟩
    · refine ⟨_, _, _, _, ev_bind0 e1 (ev_bind0 e2 (m.bind (ev_bind0 e3 (ev_neg g (ev_neg g2 (Ev.now _)))))), h3, ?_⟩
      rcases mo with h | h
      · exact h
      · rw [h] at g2; exact absurd rfl g2
theorem l02Draw_ev {c : List Int} {a s : Int} (h : Src c a s) : ∃ n d a' s', Ev (fun k => spec_l02Draw.f k c a s) (n, d, a', s') ∧ Src c a' s' ∧ (-1000000001 ≤ n ∧ n ≤ 1000000001) ∧ (-1000000001 ≤ d ∧ d ≤ 1000000001) := by
  obtain ⟨x1, a1, s1, e1, h1, b1, c1, _⟩ := l01Next_some h (n := 24) (by omega)
  by_cases g : x1 = 0
  · obtain ⟨x5, a5, s5, e5, h5, b5⟩ := l01Pick_some h1 (l := [2, 0, 1000000001, (-3)]) (by simp) (by simp)
    obtain ⟨x6, a6, s6, e6, h6, b6⟩ := l01Pick_some h5 (l := [4, 0, 2, (-1)]) (by simp) (by simp)
    simp only [List.mem_cons, List.not_mem_nil, or_false] at b5 b6
    exact ⟨_, _, _, _, ev_bind0 e1 (ev_pos g (ev_bind0 e5 (ev_bind0 e6 (Ev.now _)))), h6, by dsimp only; omega, by dsimp only; omega⟩
  · obtain ⟨n, d, a2, s2, e2, h2, b⟩ := l02Good_ev h1
    obtain ⟨b1, b2, _⟩ := ratioB_true b
    exact ⟨_, _, _, _, ev_bind0 e1 (ev_neg g (e2.bind (Ev.now _))), h2, by dsimp only; omega, by dsimp only; omega⟩

theorem l01Damage_some {c : List Int} {a s : Int} (h : Src c a s) {t : ByteArray} (ht : t.size ≤ 100000) : ∃ r a' s', spec_l01Damage.f c a s t = some (r, a', s') ∧ Src c a' s' ∧ r.size ≤ t.size + 1 := by
  unfold spec_l01Damage.f
  rw [w64 (n := (t.size : Int) + 1) (by omega) (by omega)]
  obtain ⟨k, a1, s1, e1, h1, k0, k1, _⟩ := l01Next_some h (n := (t.size : Int) + 1) (by omega)
  obtain ⟨m, a2, s2, e2, h2, m0, m1, _⟩ := l01Next_some h1 (n := 8) (by omega)
  have k2 := k1 (by omega)
  rw [e1, Option.bind_some, e2, Option.bind_some]
  dsimp only
  have z1 : (t.extract 0 k.toNat).size = k.toNat := by rw [ByteArray.size_extract]; omega
  have z2 : (t.extract k.toNat t.size).size = t.size - k.toNat := by rw [ByteArray.size_extract]; omega
  by_cases g0 : m = 0
  · rw [if_pos g0, if_pos k0, if_pos (by omega)]
    exact ⟨_, _, _, rfl, h2, by omega⟩
  · rw [if_neg g0]
    by_cases g1 : m = 1
    · rw [if_pos g1, if_pos k0, if_pos (by omega), Option.bind_some]
      obtain ⟨q, a3, s3, e3, h3, q0, q1, _⟩ := l01Next_some h2 (n := 8) (by omega)
      have q2 := q1 (by omega)
      rw [e3, Option.bind_some]
      dsimp only
      rw [if_pos q0, if_pos (by simpa using q2)]
      have z3 : (rdOf ByteArray.empty [(⟨#[48]⟩ : ByteArray), (⟨#[35]⟩ : ByteArray), (⟨#[46]⟩ : ByteArray), (⟨#[47]⟩ : ByteArray), (⟨#[32]⟩ : ByteArray), (⟨#[97]⟩ : ByteArray), (⟨#[45]⟩ : ByteArray), (⟨#[10]⟩ : ByteArray)] q).size = 1 := by
        unfold rdOf
        have : q.toNat = 0 ∨ q.toNat = 1 ∨ q.toNat = 2 ∨ q.toNat = 3 ∨ q.toNat = 4 ∨ q.toNat = 5 ∨ q.toNat = 6 ∨ q.toNat = 7 := by omega
        rcases this with e | e | e | e | e | e | e | e <;> rw [e] <;> rfl
      rw [if_pos (by omega), if_pos (by rw [ByteArray.size_append]; omega)]
      exact ⟨_, _, _, rfl, h3, by rw [ByteArray.size_append, ByteArray.size_append]; omega⟩
    · rw [if_neg g1]
      by_cases g2 : m = 2
      · rw [if_pos g2]
        by_cases g3 : k < (t.size : Int)
        · have z4 : (t.extract (k + 1).toNat t.size).size = t.size - (k + 1).toNat := by rw [ByteArray.size_extract]; omega
          rw [if_pos g3, if_pos k0, if_pos (by omega), w64 (n := k + 1) (by omega) (by omega), if_pos (by omega), if_pos (by omega), if_pos (by omega)]
          exact ⟨_, _, _, rfl, h2, by rw [ByteArray.size_append]; omega⟩
        · rw [if_neg g3]
          exact ⟨_, _, _, rfl, h2, by omega⟩
      · rw [if_neg g2]
        exact ⟨_, _, _, rfl, h2, by omega⟩

theorem DrawRatioText_ev {c : List Int} (hc : Code c) : ∃ n d, Ev (fun k => spec_DrawRatioText.f k c) (n, d) := by
  obtain ⟨s, e, h⟩ := l01From_ev hc
  obtain ⟨n, d, a', s', e1, h1, _⟩ := l02Draw_ev h
  exact ⟨n, d, e.bind (e1.bind (Ev.now _))⟩
theorem DrawReadRatio_ev {c : List Int} (hc : Code c) : ∃ t, Ev (fun k => spec_DrawReadRatio.f k c) t ∧ t.size ≤ 10000 := by
  obtain ⟨s, e, h⟩ := l01From_ev hc
  obtain ⟨n, d, a', s', e1, h1, hr⟩ := l02Good_ev h
  obtain ⟨t, et, ht⟩ := spec_l02Text_ev hr
  obtain ⟨b1, b2, _⟩ := ratioB_true hr
  have hs : t.size ≤ 41 := by
    have := sz_bo ht
    have l1 := numL_len (n := n) (by omega) (by omega)
    have l2 := numL_len (n := d) (by omega) (by omega)
    unfold fracL at this
    simp only [List.length_append, List.length_singleton] at this
    omega
  obtain ⟨x0, a0, s0, e0, h0, _⟩ := l01Next_some h1 (n := 4) (by omega)
  by_cases g : x0 = 0
  · obtain ⟨r, a5, s5, e5, h5, hr⟩ := l01Damage_some h0 (t := t) (by omega)
    exact ⟨r, e.bind (e1.bind (et.bind (ev_bind0 e0 (ev_pos g (ev_bind0 e5 (Ev.now _)))))), by omega⟩
  · by_cases g1 : x0 = 1
    · obtain ⟨x1, a1, s1, e3, h3, b3, c3, _⟩ := l01Next_some h0 (n := 5) (by omega)
      have c3 := c3 (by omega)
      refine ⟨rdOf ByteArray.empty [(⟨#[50, 47, 52]⟩ : ByteArray), (⟨#[49, 47, 48]⟩ : ByteArray), (⟨#[45, 48, 47, 49]⟩ : ByteArray), (⟨#[49, 48, 48, 48, 48, 48, 48, 48, 48, 49, 47, 50]⟩ : ByteArray), (⟨#[51]⟩ : ByteArray)] x1, e.bind (e1.bind (et.bind (ev_bind0 e0 (ev_neg g (ev_pos g1 (ev_bind0 rfl (ev_bind0 e3 (ev_pos b3 (ev_pos (by simpa using c3) (Ev.now _)))))))))), ?_⟩
      have hx : x1.toNat < 5 := by omega
      unfold rdOf
      have : x1.toNat = 0 ∨ x1.toNat = 1 ∨ x1.toNat = 2 ∨ x1.toNat = 3 ∨ x1.toNat = 4 := by omega
      rcases this with h | h | h | h | h <;> rw [h] <;> decide
    · exact ⟨t, e.bind (e1.bind (et.bind (ev_bind0 e0 (ev_neg g (ev_neg g1 (Ev.now _)))))), by omega⟩
theorem ratT_len {n d : Int} {t : ByteArray} {b : Int} (h : RatT n d (t, b)) (hb : b = 0) : RatioB n d = true ∧ bytesOf t = fracL n d ∧ t.size ≤ 41 := by
  subst hb
  rcases h with ⟨_, h⟩ | ⟨h1, h2, _⟩
  · have := (Prod.mk.inj h).2; omega
  · obtain ⟨b1, b2, _⟩ := ratioB_true h1
    have := sz_bo h2
    have l1 := numL_len (n := n) (by omega) (by omega)
    have l2 := numL_len (n := d) (by omega) (by omega)
    unfold fracL at this
    simp only [List.length_append, List.length_singleton] at this
    exact ⟨h1, h2, by omega⟩
theorem main : laws_FnRatioTexts.Pure := by
  intro c _ _ hw
  apply Ev.rounds
  unfold laws_FnRatioTexts.f
  by_cases g : (c.length : Int) > 4096
  · exact ev_bind0 (big_true g) (ev_pos rfl (Ev.now _))
  refine ev_bind0 (big_false g) (ev_neg (by decide) ?_)
  have hc := code_of hw g
  obtain ⟨n, d, ex⟩ := DrawRatioText_ev hc
  obtain ⟨s, es, hs⟩ := DrawReadRatio_ev hc
  obtain ⟨⟨t, bad⟩, a, b, hb⟩ := RatioText_both n d
  obtain ⟨⟨u, v, one⟩, p, q, hq⟩ := ReadRatio_both s (by omega)
  refine ex.bind (a.bind (b.bind (es.bind (p.bind (q.bind (ev_pos rfl (ev_pos rfl (ev_pos rfl (ev_pos (by simp) ((impl_IsRatio_ev n d).bind ?_))))))))))
  have hflag : (RatioB n d != (bad == 0)) = false := by
    rcases hb with ⟨h1, h⟩ | ⟨h1, _, h3⟩
    · have := (Prod.mk.inj h).2
      rw [h1, this]; decide
    · simp only at h3
      rw [h1, h3]; decide
  dsimp only
  rw [hflag]
  have back : Ev (fun k => if bad = 0 then ((impl_ReadRatio.f k t).bind fun bt322 => (if bt322.2.2 = 0 then (some (bt322.1 == n && (bt322.2.1 == d))) else (some false))) else (some true)) true := by
    by_cases g0 : bad = 0
    · obtain ⟨k1, k2, k3⟩ := ratT_len hb g0
      obtain ⟨r, p', _, hr⟩ := ReadRatio_both t (by omega)
      have e : ReadR (bytesOf t) (n, d, 0) := .inl ⟨n, d, k1, k2, rfl⟩
      obtain rfl := readR_uniq hr e
      exact ev_pos g0 (p'.bind (ev_pos rfl (ev_ret (by simp))))
    · exact ev_neg g0 (Ev.now _)
  refine Ev.step (fun k => laws_FnRatioTexts.j0.eq_2 ..) (ev_neg (by simp) ?_)
  by_cases g0 : one = 0
  · rcases hq with ⟨x, y, hr, hx, h⟩ | ⟨_, h⟩
    · obtain ⟨rfl, rfl, rfl⟩ : u = x ∧ v = y ∧ one = 0 := by simpa using h
      obtain ⟨r, er, hr'⟩ := impl_RatioText_ev u v
      rcases hr' with ⟨h1, _⟩ | ⟨h1, h2, h3⟩
      · rw [h1] at hr; cases hr
      · refine ev_pos g0 (er.bind (ev_pos h3 ?_))
        have e : r.1.toList = s.toList := toList_eq.2 (bo_inj (by rw [h2, hx]))
        exact Ev.step (fun k => laws_FnRatioTexts.j1.eq_2 ..) (ev_neg (by simp [e]) back)
    · obtain ⟨_, _, h3⟩ : u = 0 ∧ v = 0 ∧ one = 6 := by simpa using h
      omega
  · exact ev_neg g0 back

end Go.Proofs.Ytpkadlgnkcbcbaa.PureFnRatioTexts
namespace Go.Proofs.Ytpkadlgnkcbcbaa.Pure
theorem FnRatioTexts : QFnRatioTexts.laws_FnRatioTexts.Pure := PureFnRatioTexts.main
end Go.Proofs.Ytpkadlgnkcbcbaa.Pure
