/- TimeText answers what the reference's answers, for all arguments; no condition. -/
import Derived.Test.YtgcjjpaljfgiaaaMa
import Derived.Test.YtgcjjpaljfgiaaaQFnExactTimeTextx
namespace Go.Proofs.Ytgcjjpaljfgiaaa.PureFnExactTimeText
open Go.RowKit Go.Proofs.Ytgcjjpaljfgiaaa.QFnExactTimeText Go.Proofs.YtgcjjpaljfgiaaaW.PrintWords Go.Proofs.YtgcjjpaljfgiaaaW.PrintLast Go.Proofs.Ytgcjjpaljfgiaaa.Ma
set_option linter.unusedVariables false
set_option linter.unusedSimpArgs false

/-! ### division, ranges -/
theorem in_eq (a b c : Int) : spec_l01In.f a b c = some (decide (b ≤ a ∧ a ≤ c)) := by
  unfold spec_l01In.f
  by_cases h : b ≤ a <;> simp [h]
theorem within_eq (a b c : Int) : impl_within.f a b c = some (decide (b ≤ a ∧ a ≤ c)) := by
  unfold impl_within.f
  by_cases h : b ≤ a <;> simp [h]
theorem tdiv_floor {a b : Int} (hb : 0 < b) : (Int.tmod a b < 0 → Int.tdiv a b - 1 = a / b) ∧ (¬ Int.tmod a b < 0 → Int.tdiv a b = a / b) := by
  have h1 := Int.tdiv_eq_ediv (a := a) (b := b)
  have h2 := Int.tmod_eq_emod (a := a) (b := b)
  have h3 := Int.emod_nonneg a (show b ≠ 0 by omega)
  have h4 := Int.emod_lt_of_pos a hb
  by_cases h : 0 ≤ a ∨ b ∣ a
  · rw [if_pos h] at h1 h2
    omega
  · rw [if_neg h] at h1 h2
    rw [Int.sign_eq_one_of_pos hb] at h1
    omega
theorem ediv_small {a b : Int} (hb : 0 < b) (h : -4611686018427387904 ≤ a) (h' : a ≤ 4611686018427387904) : -4611686018427387904 ≤ a / b ∧ a / b ≤ 4611686018427387904 := by
  have h1 : -4611686018427387904 * b ≤ a := by
    have := Int.mul_le_mul_of_nonneg_left (show 1 ≤ b by omega) (show (0 : Int) ≤ 4611686018427387904 by omega); omega
  have h2 : a < (4611686018427387904 + 1) * b := by
    have := Int.mul_le_mul_of_nonneg_left (show 1 ≤ b by omega) (show (0 : Int) ≤ 4611686018427387905 by omega); omega
  have h3 := (Int.le_ediv_iff_mul_le hb).2 h1
  have h4 := (Int.ediv_lt_iff_lt_mul hb).2 h2
  omega
/-! ### numbers in decimal -/
def numL (n : Int) : List Int := if n < 0 then 45 :: dec (-n).toNat else dec n.toNat
theorem numL_pos {n : Int} (h : 0 ≤ n) : numL n = dec n.toNat := by unfold numL; rw [if_neg (by omega)]
theorem numL_neg {n : Int} (h : n < 0) : numL n = 45 :: dec (-n).toNat := by unfold numL; rw [if_pos h]
theorem sz_bo {s : ByteArray} {l : List Int} (h : bytesOf s = l) : s.size = l.length := by rw [← h, bytesOf_length]
theorem byte_dig {c : Int} (h : Dig c) : byte c := by unfold Dig at h; unfold byte; omega
theorem bo_one {c : Int} (h : byte c) : bytesOf (strOfNums [c]) = [c] := bo_of _ (fun x hx => by simp only [List.mem_singleton] at hx; subst hx; exact h)
theorem bo_lit (l : List UInt8) : bytesOf ⟨l.toArray⟩ = l.map fun b => (b.toNat : Int) := rfl
theorem pow_int (k : Nat) : ((10 ^ k : Nat) : Int) = (10 : Int) ^ k := by simp
theorem dec_len_le' {n : Int} {k : Nat} (h0 : 0 ≤ n) (h : n < 10 ^ (k + 1)) : (dec n.toNat).length ≤ k + 1 := by
  refine dec_len_le k n.toNat ?_
  have := pow_int (k + 1)
  omega
/-- the byte of the last digit -/
theorem dig_byte {n : Int} (h : 0 ≤ n) : (wrap64 (48 + (Int.tmod n 10))) % 256 = 48 + n % 10 := by
  rw [Int.tmod_eq_emod_of_nonneg h, w64 (by omega) (by omega)]; omega
theorem impl_decimal_l0 : ∀ (d : Nat) (n : Int) (x : ByteArray), 0 ≤ n → n < 10 ^ (d + 1) → n ≤ 9223372036854775807 → x.size + d ≤ 4611686018427387904 → ∃ r, Ev (fun k => impl_decimal.l0 k n x) r ∧ bytesOf r = dec n.toNat ++ bytesOf x := by
  intro d
  induction d with
  | zero =>
    intro n x h0 h1 h2 h3
    have hb : bytesOf (strOfNums [48 + n % 10]) = [48 + n % 10] := bo_one (by unfold byte; omega)
    have hs := sz_bo hb
    refine ⟨strOfNums [48 + n % 10] ++ x, Ev.step (fun k => impl_decimal.l0.eq_2 ..) (ev_bind0 rfl ?_), ?_⟩
    · rw [dig_byte h0, Int.tdiv_eq_ediv_of_nonneg h0, w64 (by omega) (by omega)]
      simp only [List.length_singleton] at hs
      exact ev_pos (by omega) (ev_pos (by omega) (Ev.now _))
    · rw [bo_app, hb, dec_small (by omega)]
      congr 2; omega
  | succ d ih =>
    intro n x h0 h1 h2 h3
    have hb : bytesOf (strOfNums [48 + n % 10]) = [48 + n % 10] := bo_one (by unfold byte; omega)
    have hs := sz_bo hb
    simp only [List.length_singleton] at hs
    by_cases g : n / 10 = 0
    · refine ⟨strOfNums [48 + n % 10] ++ x, Ev.step (fun k => impl_decimal.l0.eq_2 ..) (ev_bind0 rfl ?_), ?_⟩
      · rw [dig_byte h0, Int.tdiv_eq_ediv_of_nonneg h0, w64 (by omega) (by omega)]
        exact ev_pos (by omega) (ev_pos g (Ev.now _))
      · rw [bo_app, hb, dec_small (by omega)]
        congr 2; omega
    · obtain ⟨r, hr, e⟩ := ih (n / 10) (strOfNums [48 + n % 10] ++ x) (by omega) (by rw [Int.pow_succ] at h1; omega) (by omega) (by rw [ByteArray.size_append]; omega)
      refine ⟨r, Ev.step (fun k => impl_decimal.l0.eq_2 ..) (ev_bind0 rfl ?_), ?_⟩
      · rw [dig_byte h0, Int.tdiv_eq_ediv_of_nonneg h0, w64 (by omega) (by omega)]
        exact ev_pos (by omega) (ev_neg g hr)
      · rw [e, bo_app, hb, dec_big (n := n.toNat) (by omega), show n.toNat / 10 = (n / 10).toNat by omega, show ((n.toNat % 10 : Nat) : Int) = n % 10 by omega]
        simp
theorem impl_decimal_nn {n : Int} (h0 : 0 ≤ n) (h1 : n ≤ 1000000000000000000) : ∃ r, Ev (fun k => impl_decimal.f k n) r ∧ bytesOf r = dec n.toNat := by
  obtain ⟨r, hr, e⟩ := impl_decimal_l0 18 n ⟨#[]⟩ h0 (by omega) (by omega) (by decide)
  refine ⟨r, Ev.step (fun k => impl_decimal.f.eq_2 ..) (ev_neg (by omega) hr), ?_⟩
  rw [e, bo_nil]; simp
theorem impl_decimal_ev {n : Int} (h0 : -1000000000000000000 ≤ n) (h1 : n ≤ 1000000000000000000) : ∃ r, Ev (fun k => impl_decimal.f k n) r ∧ bytesOf r = numL n := by
  by_cases g : n < 0
  · obtain ⟨r, hr, e⟩ := impl_decimal_nn (n := -n) (by omega) (by omega)
    have hl := dec_len_le' (n := -n) (k := 18) (by omega) (by omega)
    have hs := sz_bo e
    refine ⟨(⟨#[45]⟩ : ByteArray) ++ r, Ev.step (fun k => impl_decimal.f.eq_2 ..) (ev_pos g ?_), ?_⟩
    · rw [w64 (by omega) (by omega)]
      exact hr.bind (ev_pos (by omega) (Ev.now _))
    · rw [bo_app, e, numL_neg g]; rfl
  · obtain ⟨r, hr, e⟩ := impl_decimal_nn (n := n) (by omega) h1
    exact ⟨r, hr, by rw [e, numL_pos (by omega)]⟩
theorem spec_l01Dec_d : ∀ (d : Nat) (n : Int), 0 ≤ n → n < 10 ^ (d + 1) → n ≤ 9223372036854775807 → d ≤ 1000 → ∃ r, Ev (fun k => spec_l01Dec.f k n) r ∧ bytesOf r = dec n.toNat := by
  intro d
  induction d with
  | zero =>
    intro n h0 h1 h2 _
    have hb : bytesOf (strOfNums [48 + n]) = [48 + n] := bo_one (by unfold byte; omega)
    refine ⟨strOfNums [48 + n], Ev.step (fun k => spec_l01Dec.f.eq_2 ..) (ev_pos (by omega) (ev_ret ?_)), ?_⟩
    · rw [w64 (by omega) (by omega), show (48 + n) % 256 = 48 + n by omega]
    · rw [hb, dec_small (by omega)]
      congr 2; omega
  | succ d ih =>
    intro n h0 h1 h2 hd
    by_cases g : n < 10
    · have hb : bytesOf (strOfNums [48 + n]) = [48 + n] := bo_one (by unfold byte; omega)
      refine ⟨strOfNums [48 + n], Ev.step (fun k => spec_l01Dec.f.eq_2 ..) (ev_pos g (ev_ret ?_)), ?_⟩
      · rw [w64 (by omega) (by omega), show (48 + n) % 256 = 48 + n by omega]
      · rw [hb, dec_small (by omega)]
        congr 2; omega
    · have hb : bytesOf (strOfNums [48 + n % 10]) = [48 + n % 10] := bo_one (by unfold byte; omega)
      have hs := sz_bo hb
      simp only [List.length_singleton] at hs
      obtain ⟨r, hr, e⟩ := ih (n / 10) (by omega) (by rw [Int.pow_succ] at h1; omega) (by omega) (by omega)
      have hl := dec_len_le' (n := n / 10) (k := d) (by omega) (by rw [Int.pow_succ] at h1; omega)
      have hsr := sz_bo e
      refine ⟨r ++ strOfNums [48 + n % 10], Ev.step (fun k => spec_l01Dec.f.eq_2 ..) (ev_neg g ?_), ?_⟩
      · rw [dig_byte h0, Int.tdiv_eq_ediv_of_nonneg h0, w64 (by omega) (by omega)]
        exact hr.bind (ev_bind0 rfl (ev_pos (by omega) (Ev.now _)))
      · rw [bo_app, e, hb, dec_big (n := n.toNat) (by omega), show n.toNat / 10 = (n / 10).toNat by omega, show ((n.toNat % 10 : Nat) : Int) = n % 10 by omega]
theorem spec_l01Dec_ev {n : Int} (h0 : 0 ≤ n) (h1 : n ≤ 1000000000000000000) : ∃ r, Ev (fun k => spec_l01Dec.f k n) r ∧ bytesOf r = dec n.toNat := spec_l01Dec_d 18 n h0 (by omega) (by omega) (by omega)
theorem numL_len {n : Int} (h0 : -1000000000000000000 ≤ n) (h1 : n ≤ 1000000000000000000) : (numL n).length ≤ 20 := by
  by_cases g : n < 0
  · rw [numL_neg g]
    have hl := dec_len_le' (n := -n) (k := 18) (by omega) (by omega)
    simp; omega
  · rw [numL_pos (by omega)]
    have hl := dec_len_le' (n := n) (k := 18) (by omega) (by omega)
    omega

/-- a time, written -/
def ttL (t : Int) : List Int := dec (t / 60000).toNat ++ [58, 48 + t / 1000 % 60 / 10, 48 + t / 1000 % 60 % 10, 46, 48 + t % 1000 / 100, 48 + t % 1000 / 10 % 10, 48 + t % 1000 % 10]
theorem dec1 {n : Int} (h0 : 0 ≤ n) (h1 : n < 10) : dec n.toNat = [48 + n] := by
  rw [dec_small (by omega)]; congr 1; omega
theorem dec2 {n : Int} (h0 : 10 ≤ n) (h1 : n < 100) : dec n.toNat = [48 + n / 10, 48 + n % 10] := by
  rw [dec_big (by omega), show n.toNat / 10 = (n / 10).toNat by omega, dec1 (by omega) (by omega)]
  simp only [List.cons_append, List.nil_append]
  congr 3; omega
theorem dec3 {n : Int} (h0 : 100 ≤ n) (h1 : n < 1000) : dec n.toNat = [48 + n / 100, 48 + n / 10 % 10, 48 + n % 10] := by
  rw [dec_big (by omega), show n.toNat / 10 = (n / 10).toNat by omega, dec2 (by omega) (by omega)]
  simp only [List.cons_append, List.nil_append]
  congr 1
  · omega
  · congr 2; omega
theorem pad_step {d : Int} {x : ByteArray} {l : List Int} (h : bytesOf x = l) (g : (l.length : Int) < d) (hd : d ≤ 1000) {r : ByteArray} (e : Ev (fun k => impl_padded.l0 k d ((⟨#[48]⟩ : ByteArray) ++ x)) r) : Ev (fun k => impl_padded.l0 k d x) r := by
  have hs := sz_bo h
  exact Ev.step (fun k => impl_padded.l0.eq_2 ..) (ev_pos (by omega) (ev_pos (by omega) e))
theorem pad_done {d : Int} {x : ByteArray} {l : List Int} (h : bytesOf x = l) (g : ¬ (l.length : Int) < d) : Ev (fun k => impl_padded.l0 k d x) x := by
  have hs := sz_bo h
  exact Ev.step (fun k => impl_padded.l0.eq_2 ..) (ev_neg (by omega) (Ev.now _))
theorem bo_zero (x : ByteArray) : bytesOf ((⟨#[48]⟩ : ByteArray) ++ x) = 48 :: bytesOf x := by rw [bo_app]; rfl
theorem padded2 {n : Int} (h0 : 0 ≤ n) (h1 : n < 100) : ∃ r, Ev (fun k => impl_padded.f k n 2) r ∧ bytesOf r = [48 + n / 10, 48 + n % 10] := by
  obtain ⟨x, hx, e⟩ := impl_decimal_ev (n := n) (by omega) (by omega)
  rw [numL_pos h0] at e
  by_cases g : n < 10
  · rw [dec1 h0 g] at e
    refine ⟨(⟨#[48]⟩ : ByteArray) ++ x, hx.bind (pad_step e (by simp) (by omega) (pad_done (bo_zero x) (by rw [e]; simp))), ?_⟩
    rw [bo_zero, e]; congr 1
    · omega
    · congr 1; omega
  · rw [dec2 (by omega) h1] at e
    exact ⟨x, hx.bind (pad_done e (by simp)), e⟩
theorem padded3 {n : Int} (h0 : 0 ≤ n) (h1 : n < 1000) : ∃ r, Ev (fun k => impl_padded.f k n 3) r ∧ bytesOf r = [48 + n / 100, 48 + n / 10 % 10, 48 + n % 10] := by
  obtain ⟨x, hx, e⟩ := impl_decimal_ev (n := n) (by omega) (by omega)
  rw [numL_pos h0] at e
  by_cases g : n < 10
  · rw [dec1 h0 g] at e
    refine ⟨(⟨#[48]⟩ : ByteArray) ++ ((⟨#[48]⟩ : ByteArray) ++ x), hx.bind (pad_step e (by simp) (by omega) (pad_step (bo_zero x) (by rw [e]; simp) (by omega) (pad_done (bo_zero _) (by rw [bo_zero, e]; simp)))), ?_⟩
    rw [bo_zero, bo_zero, e]; congr 1
    · omega
    · congr 1
      · omega
      · congr 1; omega
  · by_cases g' : n < 100
    · rw [dec2 (by omega) g'] at e
      refine ⟨(⟨#[48]⟩ : ByteArray) ++ x, hx.bind (pad_step e (by simp) (by omega) (pad_done (bo_zero x) (by rw [e]; simp))), ?_⟩
      rw [bo_zero, e]; congr 1
      · omega
      · congr 1; omega
    · rw [dec3 (by omega) h1] at e
      exact ⟨x, hx.bind (pad_done e (by simp)), e⟩
theorem impl_timeText_ev {t : Int} (h0 : 0 ≤ t) (h1 : t ≤ 10000000) : ∃ r, Ev (fun k => impl_timeText.f k t) r ∧ bytesOf r = ttL t := by
  obtain ⟨a, ha, ea⟩ := impl_decimal_ev (n := t / 60000) (by omega) (by omega)
  obtain ⟨b, hb, eb⟩ := padded2 (n := t / 1000 % 60) (by omega) (by omega)
  obtain ⟨c, hc, ec⟩ := padded3 (n := t % 1000) (by omega) (by omega)
  rw [numL_pos (by omega)] at ea
  have la := dec_len_le' (n := t / 60000) (k := 3) (by omega) (by omega)
  have sa := sz_bo ea
  have sb := sz_bo eb
  have sc := sz_bo ec
  simp only [List.length_cons, List.length_nil] at sb sc
  have l1 : (⟨#[58]⟩ : ByteArray).size = 1 := rfl
  have l2 : (⟨#[46]⟩ : ByteArray).size = 1 := rfl
  refine ⟨(((a ++ (⟨#[58]⟩ : ByteArray)) ++ b) ++ (⟨#[46]⟩ : ByteArray)) ++ c, ?_, ?_⟩
  · unfold impl_timeText.f
    rw [Int.tdiv_eq_ediv_of_nonneg h0, Int.tdiv_eq_ediv_of_nonneg h0, w64 (n := t / 60000) (by omega) (by omega), w64 (n := t / 1000) (by omega) (by omega), Int.tmod_eq_emod_of_nonneg (show 0 ≤ t / 1000 by omega), Int.tmod_eq_emod_of_nonneg h0]
    refine ha.bind (ev_pos (by omega) (hb.bind (ev_pos (by simp only [ByteArray.size_append]; omega) (ev_pos (by simp only [ByteArray.size_append]; omega) (hc.bind (ev_pos (by simp only [ByteArray.size_append]; omega) (Ev.now _)))))))
  · simp only [bo_app, ea, eb, ec]
    unfold ttL
    simp [bo_lit]
theorem spec_l01Time_ev {t : Int} (h0 : 0 ≤ t) (h1 : t ≤ 10000000) : ∃ r, Ev (fun k => spec_l01Time.f k t) r ∧ bytesOf r = ttL t := by
  obtain ⟨a, ha, ea⟩ := spec_l01Dec_ev (n := t / 60000) (by omega) (by omega)
  obtain ⟨b, hb, eb⟩ := spec_l01Dec_ev (n := t / 1000 % 60 / 10) (by omega) (by omega)
  obtain ⟨c, hc, ec⟩ := spec_l01Dec_ev (n := t / 1000 % 60 % 10) (by omega) (by omega)
  obtain ⟨d, hd, ed⟩ := spec_l01Dec_ev (n := t % 1000 / 100) (by omega) (by omega)
  obtain ⟨e, he, ee⟩ := spec_l01Dec_ev (n := t % 1000 / 10 % 10) (by omega) (by omega)
  obtain ⟨f, hf, ef⟩ := spec_l01Dec_ev (n := t % 1000 % 10) (by omega) (by omega)
  rw [dec1 (by omega) (by omega)] at eb ec ed ee ef
  have la := dec_len_le' (n := t / 60000) (k := 3) (by omega) (by omega)
  have sa := sz_bo ea
  have sb := sz_bo eb
  have sc := sz_bo ec
  have sd := sz_bo ed
  have se := sz_bo ee
  have sf := sz_bo ef
  simp only [List.length_cons, List.length_nil] at sb sc sd se sf
  have l1 : (⟨#[58]⟩ : ByteArray).size = 1 := rfl
  have l2 : (⟨#[46]⟩ : ByteArray).size = 1 := rfl
  refine ⟨((((((a ++ (⟨#[58]⟩ : ByteArray)) ++ b) ++ c) ++ (⟨#[46]⟩ : ByteArray)) ++ d) ++ e) ++ f, ?_, ?_⟩
  · unfold spec_l01Time.f
    rw [Int.tdiv_eq_ediv_of_nonneg h0, Int.tdiv_eq_ediv_of_nonneg h0, w64 (n := t / 60000) (by omega) (by omega), w64 (n := t / 1000) (by omega) (by omega), Int.tmod_eq_emod_of_nonneg (show 0 ≤ t / 1000 by omega), Int.tmod_eq_emod_of_nonneg h0,
      Int.tdiv_eq_ediv_of_nonneg (show 0 ≤ t / 1000 % 60 by omega), Int.tmod_eq_emod_of_nonneg (show 0 ≤ t / 1000 % 60 by omega), Int.tdiv_eq_ediv_of_nonneg (show 0 ≤ t % 1000 by omega), Int.tdiv_eq_ediv_of_nonneg (show 0 ≤ t % 1000 by omega), Int.tmod_eq_emod_of_nonneg (show 0 ≤ t % 1000 by omega),
      w64 (n := t / 1000 % 60 / 10) (by omega) (by omega), w64 (n := t % 1000 / 100) (by omega) (by omega), w64 (n := t % 1000 / 10) (by omega) (by omega), Int.tmod_eq_emod_of_nonneg (show 0 ≤ t % 1000 / 10 by omega)]
    refine ha.bind (ev_pos (by omega) (hb.bind (ev_pos (by simp only [ByteArray.size_append]; omega) (hc.bind (ev_pos (by simp only [ByteArray.size_append]; omega) (ev_pos (by simp only [ByteArray.size_append]; omega) (hd.bind (ev_pos (by simp only [ByteArray.size_append]; omega) (he.bind (ev_pos (by simp only [ByteArray.size_append]; omega) (hf.bind (ev_pos (by simp only [ByteArray.size_append]; omega) (Ev.now _)))))))))))))
  · simp only [bo_app, ea, eb, ec, ed, ee, ef]
    unfold ttL
    simp [bo_lit]
theorem impl_TimeText_in {t : Int} (h0 : 0 ≤ t) (h1 : t ≤ 10000000) : ∃ r, Ev (fun k => impl_TimeText.f k t) (r, 0) ∧ bytesOf r = ttL t := by
  obtain ⟨r, hr, e⟩ := impl_timeText_ev h0 h1
  refine ⟨r, ?_, e⟩
  unfold impl_TimeText.f impl_isTime.f
  rw [within_eq, Option.bind_some]
  exact ev_bind0 rfl (ev_pos (by simp; omega) (hr.bind (Ev.now _)))
theorem impl_TimeText_out {t : Int} (h : ¬ (0 ≤ t ∧ t ≤ 10000000)) : Ev (fun k => impl_TimeText.f k t) (⟨#[]⟩, 2) := by
  unfold impl_TimeText.f impl_isTime.f
  rw [within_eq, Option.bind_some]
  exact ev_bind0 rfl (ev_neg (by simp; omega) (Ev.now _))
theorem spec_TimeText_in {t : Int} (h0 : 0 ≤ t) (h1 : t ≤ 10000000) : ∃ r, Ev (fun k => spec_TimeText.f k t) (r, 0) ∧ bytesOf r = ttL t := by
  obtain ⟨r, hr, e⟩ := spec_l01Time_ev h0 h1
  refine ⟨r, ?_, e⟩
  unfold spec_TimeText.f spec_l01IsTime.f
  rw [in_eq, Option.bind_some]
  exact ev_bind0 rfl (ev_pos (by simp; omega) (hr.bind (Ev.now _)))
theorem spec_TimeText_out {t : Int} (h : ¬ (0 ≤ t ∧ t ≤ 10000000)) : Ev (fun k => spec_TimeText.f k t) (⟨#[]⟩, 2) := by
  unfold spec_TimeText.f spec_l01IsTime.f
  rw [in_eq, Option.bind_some]
  exact ev_bind0 rfl (ev_neg (by simp; omega) (Ev.now _))
/-- Both write the same. -/
theorem TimeText_both (t : Int) : ∃ r c, Ev (fun k => impl_TimeText.f k t) (r, c) ∧ Ev (fun k => spec_TimeText.f k t) (r, c) ∧ ((c = 0 ∧ 0 ≤ t ∧ t ≤ 10000000 ∧ bytesOf r = ttL t) ∨ (c = 2 ∧ ¬ (0 ≤ t ∧ t ≤ 10000000))) := by
  by_cases h : 0 ≤ t ∧ t ≤ 10000000
  · obtain ⟨a, ha, ea⟩ := impl_TimeText_in h.1 h.2
    obtain ⟨b, hb, eb⟩ := spec_TimeText_in h.1 h.2
    obtain rfl : a = b := bo_inj (by rw [ea, eb])
    exact ⟨a, 0, ha, hb, .inl ⟨rfl, h.1, h.2, ea⟩⟩
  · exact ⟨_, 2, impl_TimeText_out h, spec_TimeText_out h, .inr ⟨rfl, h⟩⟩

theorem main : laws_FnExactTimeText.Pure := by
  intro t _
  apply Ev.rounds
  unfold laws_FnExactTimeText.f
  obtain ⟨r, c, a, b, _⟩ := TimeText_both t
  refine b.bind (a.bind ?_)
  simp only [if_true]
  exact Ev.now _

end Go.Proofs.Ytgcjjpaljfgiaaa.PureFnExactTimeText
namespace Go.Proofs.Ytgcjjpaljfgiaaa.Pure
theorem FnExactTimeText : QFnExactTimeText.laws_FnExactTimeText.Pure := PureFnExactTimeText.main
end Go.Proofs.Ytgcjjpaljfgiaaa.Pure
