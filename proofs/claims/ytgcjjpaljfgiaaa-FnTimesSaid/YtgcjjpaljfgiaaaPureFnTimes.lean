/- A time is recovered from its text; no condition. -/
import Derived.Test.YtgcjjpaljfgiaaaMa
import Derived.Test.YtgcjjpaljfgiaaaQFnTimesx
namespace Go.Proofs.Ytgcjjpaljfgiaaa.PureFnTimes
open Go.RowKit Go.Proofs.Ytgcjjpaljfgiaaa.QFnTimes Go.Proofs.YtgcjjpaljfgiaaaW.PrintWords Go.Proofs.YtgcjjpaljfgiaaaW.PrintLast Go.Proofs.Ytgcjjpaljfgiaaa.Ma
set_option linter.unusedVariables false
set_option linter.unusedSimpArgs false

/-! ### numbers that follow from a code -/
def Code (c : List Int) : Prop := (∀ x ∈ c, 0 ≤ x ∧ x ≤ 255) ∧ c.length ≤ 5000
def Src (c : List Int) (a s : Int) : Prop := Code c ∧ (0 ≤ a ∧ a ≤ c.length) ∧ 0 ≤ s ∧ s < 2147483647
theorem rd_code {c : List Int} (h : Code c) {i : Int} (h0 : 0 ≤ i) (h1 : i < c.length) : 0 ≤ rd c i ∧ rd c i ≤ 255 := by
  unfold rd
  have hi : i.toNat < c.length := by omega
  rw [List.getD_eq_getElem?_getD, List.getElem?_eq_getElem hi]
  exact h.1 _ (List.getElem_mem hi)
theorem tmod_nn {a b : Int} (ha : 0 ≤ a) : Int.tmod a b = a % b := Int.tmod_eq_emod_of_nonneg ha
theorem tmod_in {a b : Int} (ha : 0 ≤ a) (hb : 0 < b) : 0 ≤ Int.tmod a b ∧ Int.tmod a b < b := by
  rw [tmod_nn ha]
  exact ⟨Int.emod_nonneg a (by omega), Int.emod_lt_of_pos a hb⟩
theorem l01Next_some {c : List Int} {a s n : Int} (h : Src c a s) (hn : n ≤ 4611686018427387904) : ∃ x a' s', spec_l01Next.f c a s n = some (x, a', s') ∧ Src c a' s' ∧ 0 ≤ x ∧ (1 ≤ n → x < n) ∧ (n ≤ 1 → x = 0) := by
  obtain ⟨hc, ⟨a0, a1⟩, s0, s1⟩ := h
  have hl := hc.2
  unfold spec_l01Next.f
  by_cases g : n ≤ 1
  · rw [if_pos g]
    exact ⟨0, a, s, rfl, ⟨hc, ⟨a0, a1⟩, s0, s1⟩, by omega, by omega, by omega⟩
  · rw [if_neg g]
    have e1 : wrap64 ((wrap64 (s * 48271)) + 29) = s * 48271 + 29 := by
      rw [w64 (n := s * 48271) (by omega) (by omega), w64 (by omega) (by omega)]
    have e2 := tmod_in (a := s * 48271 + 29) (b := 2147483647) (by omega) (by omega)
    rw [e1]
    generalize Int.tmod (s * 48271 + 29) 2147483647 = s' at *
    have e3 : wrap64 (Int.tdiv s' 31) = s' / 31 := by rw [Int.tdiv_eq_ediv_of_nonneg (by omega), w64 (by omega) (by omega)]
    rw [e3]
    by_cases g1 : a < (c.length : Int)
    · have hr := rd_code hc a0 g1
      rw [if_pos g1, if_pos a0, w64 (n := a + 1) (by omega) (by omega), w64 (n := a + 1 - 1) (by omega) (by omega), show a + 1 - 1 = a by omega, w64 (n := rd c a) (by omega) (by omega), w64 (n := s' / 31 + rd c a) (by omega) (by omega)]
      have t1 := tmod_in (a := rd c a) (b := n) (by omega) (by omega)
      have t2 := tmod_in (a := s' / 31 + rd c a) (b := n) (by omega) (by omega)
      have fin : Src c (a + 1) s' := ⟨hc, ⟨by omega, by omega⟩, e2⟩
      by_cases g2 : n ≤ 256
      · rw [if_pos g2]
        by_cases g3 : Int.tmod (a + 1) 2 = 0
        · rw [if_pos g3, if_pos a0, if_pos g1, if_neg (by omega)]
          exact ⟨_, _, _, rfl, fin, t1.1, fun _ => t1.2, by omega⟩
        · rw [if_neg g3, if_neg (by omega)]
          exact ⟨_, _, _, rfl, fin, t2.1, fun _ => t2.2, by omega⟩
      · rw [if_neg g2, if_neg (by omega)]
        exact ⟨_, _, _, rfl, fin, t2.1, fun _ => t2.2, by omega⟩
    · have t2 := tmod_in (a := s' / 31) (b := n) (by omega) (by omega)
      rw [if_neg g1, if_neg (by omega)]
      exact ⟨_, _, _, rfl, ⟨hc, ⟨a0, a1⟩, e2⟩, t2.1, fun _ => t2.2, by omega⟩
theorem l01Pick_some {c : List Int} {a s : Int} (h : Src c a s) {l : List Int} (hl : 1 ≤ l.length) (hl' : l.length ≤ 1000) : ∃ x a' s', spec_l01Pick.f c a s l = some (x, a', s') ∧ Src c a' s' ∧ x ∈ l := by
  obtain ⟨x, a', s', e, h', x0, x1, _⟩ := l01Next_some h (n := (l.length : Int)) (by omega)
  have x2 := x1 (by omega)
  unfold spec_l01Pick.f
  rw [e, Option.bind_some, if_pos x0, if_pos x2]
  refine ⟨_, _, _, rfl, h', ?_⟩
  unfold rd
  have hi : x.toNat < l.length := by omega
  rw [List.getD_eq_getElem?_getD, List.getElem?_eq_getElem hi]
  exact List.getElem_mem hi
theorem l01From_l0 {c : List Int} (hc : Code c) : ∀ (d : Nat) (i : Int) (s : Int), 64 - i = d → 0 ≤ i → 0 ≤ s → s < 2147483647 → ∃ s', Ev (fun k => spec_l01From.l0 k c i c 0 s) (c, 0, s') ∧ Src c 0 s' := by
  intro d
  have hl := hc.2
  induction d with
  | zero =>
    intro i s hd h0 s0 s1
    refine ⟨s, Ev.step (fun k => spec_l01From.l0.eq_2 ..) ?_, hc, ⟨by omega, by omega⟩, s0, s1⟩
    by_cases g : i < (c.length : Int)
    · exact ev_pos g (ev_neg (by omega) (Ev.now _))
    · exact ev_neg g (Ev.now _)
  | succ d ih =>
    intro i s hd h0 s0 s1
    by_cases g : i < (c.length : Int)
    · have hr := rd_code hc h0 g
      have e1 : wrap64 ((wrap64 (s * 83)) + (wrap64 (rd c i))) = s * 83 + rd c i := by
        rw [w64 (n := s * 83) (by omega) (by omega), w64 (n := rd c i) (by omega) (by omega), w64 (by omega) (by omega)]
      have e2 := tmod_in (a := s * 83 + rd c i) (b := 2147483647) (by omega) (by omega)
      obtain ⟨s', hs, h⟩ := ih (i + 1) (Int.tmod (s * 83 + rd c i) 2147483647) (by omega) (by omega) e2.1 e2.2
      refine ⟨s', Ev.step (fun k => spec_l01From.l0.eq_2 ..) (ev_pos g (ev_pos (by omega) (ev_pos h0 ?_))), h⟩
      rw [e1, w64 (by omega) (by omega)]
      exact hs
    · exact ⟨s, Ev.step (fun k => spec_l01From.l0.eq_2 ..) (ev_neg g (Ev.now _)), hc, ⟨by omega, by omega⟩, s0, s1⟩
theorem l01From_ev {c : List Int} (hc : Code c) : ∃ s, Ev (fun k => spec_l01From.f k c) (c, 0, s) ∧ Src c 0 s :=
  l01From_l0 hc 64 0 61043 (by omega) (by omega) (by omega) (by omega)
/-! ### dice -/
def Dice (c : List Int) (i h : Int) : Prop := Code c ∧ (0 ≤ i ∧ i ≤ c.length) ∧ 0 ≤ h ∧ h ≤ 18446744073709551615
theorem u64w (n : Int) : 0 ≤ IntKind.u64.wrap n ∧ IntKind.u64.wrap n ≤ 18446744073709551615 := by
  have e : IntKind.u64.wrap n = n % 18446744073709551616 := by rfl
  omega
theorem big_false {c : List Int} (h : ¬ (c.length : Int) > 4096) : laws_big.f c = some false := by unfold laws_big.f; simp; omega
theorem big_true {c : List Int} (h : (c.length : Int) > 4096) : laws_big.f c = some true := by unfold laws_big.f; simp; omega
theorem code_of {c : List Int} (h : ∀ x ∈ c, (Lit.int .u8 x).wf = true) (hl : ¬ (c.length : Int) > 4096) : Code c := ⟨fun x hx => bd8 (h x hx), by omega⟩

theorem l01Damage_some {c : List Int} {a s : Int} (h : Src c a s) {t : ByteArray} (ht : t.size ≤ 100000) : ∃ r a' s', spec_l01Damage.f c a s t = some (r, a', s') ∧ Src c a' s' ∧ r.size ≤ t.size + 1 := by
  unfold spec_l01Damage.f
  rw [w64 (n := (t.size : Int) + 1) (by omega) (by omega)]
  obtain ⟨k, a1, s1, e1, h1, k0, k1, _⟩ := l01Next_some h (n := (t.size : Int) + 1) (by omega)
  obtain ⟨m, a2, s2, e2, h2, m0, m1, _⟩ := l01Next_some h1 (n := 8) (by omega)
  have k2 := k1 (by omega)
  rw [e1, Option.bind_some, e2, Option.bind_some]
  dsimp only
  have z1 : (t.extract 0 k.toNat).size = k.toNat := by rw [ByteArray.size_extract]; omega
  have z2 : (t.extract k.toNat t.size).size = t.size - k.toNat := by rw [ByteArray.size_extract]; omega
  by_cases g0 : m = 0
  · rw [if_pos g0, if_pos k0, if_pos (by omega)]
    exact ⟨_, _, _, rfl, h2, by omega⟩
  · rw [if_neg g0]
    by_cases g1 : m = 1
    · rw [if_pos g1, if_pos k0, if_pos (by omega), Option.bind_some]
      obtain ⟨q, a3, s3, e3, h3, q0, q1, _⟩ := l01Next_some h2 (n := 8) (by omega)
      have q2 := q1 (by omega)
      rw [e3, Option.bind_some]
      dsimp only
      rw [if_pos q0, if_pos (by simpa using q2)]
      have z3 : (rdOf ByteArray.empty [(⟨#[48]⟩ : ByteArray), (⟨#[35]⟩ : ByteArray), (⟨#[46]⟩ : ByteArray), (⟨#[47]⟩ : ByteArray), (⟨#[32]⟩ : ByteArray), (⟨#[97]⟩ : ByteArray), (⟨#[45]⟩ : ByteArray), (⟨#[10]⟩ : ByteArray)] q).size = 1 := by
        unfold rdOf
        have : q.toNat = 0 ∨ q.toNat = 1 ∨ q.toNat = 2 ∨ q.toNat = 3 ∨ q.toNat = 4 ∨ q.toNat = 5 ∨ q.toNat = 6 ∨ q.toNat = 7 := by omega
        rcases this with e | e | e | e | e | e | e | e <;> rw [e] <;> rfl
      rw [if_pos (by omega), if_pos (by rw [ByteArray.size_append]; omega)]
      exact ⟨_, _, _, rfl, h3, by rw [ByteArray.size_append, ByteArray.size_append]; omega⟩
    · rw [if_neg g1]
      by_cases g2 : m = 2
      · rw [if_pos g2]
        by_cases g3 : k < (t.size : Int)
        · have z4 : (t.extract (k + 1).toNat t.size).size = t.size - (k + 1).toNat := by rw [ByteArray.size_extract]; omega
          rw [if_pos g3, if_pos k0, if_pos (by omega), w64 (n := k + 1) (by omega) (by omega), if_pos (by omega), if_pos (by omega), if_pos (by omega)]
          exact ⟨_, _, _, rfl, h2, by rw [ByteArray.size_append]; omega⟩
        · rw [if_neg g3]
          exact ⟨_, _, _, rfl, h2, by omega⟩
      · rw [if_neg g2]
        exact ⟨_, _, _, rfl, h2, by omega⟩

/-! ### division, ranges -/
theorem in_eq (a b c : Int) : spec_l01In.f a b c = some (decide (b ≤ a ∧ a ≤ c)) := by
  unfold spec_l01In.f
  by_cases h : b ≤ a <;> simp [h]
theorem within_eq (a b c : Int) : impl_within.f a b c = some (decide (b ≤ a ∧ a ≤ c)) := by
  unfold impl_within.f
  by_cases h : b ≤ a <;> simp [h]
theorem tdiv_floor {a b : Int} (hb : 0 < b) : (Int.tmod a b < 0 → Int.tdiv a b - 1 = a / b) ∧ (¬ Int.tmod a b < 0 → Int.tdiv a b = a / b) := by
  have h1 := Int.tdiv_eq_ediv (a := a) (b := b)
  have h2 := Int.tmod_eq_emod (a := a) (b := b)
  have h3 := Int.emod_nonneg a (show b ≠ 0 by omega)
  have h4 := Int.emod_lt_of_pos a hb
  by_cases h : 0 ≤ a ∨ b ∣ a
  · rw [if_pos h] at h1 h2
    omega
  · rw [if_neg h] at h1 h2
    rw [Int.sign_eq_one_of_pos hb] at h1
    omega
theorem ediv_small {a b : Int} (hb : 0 < b) (h : -4611686018427387904 ≤ a) (h' : a ≤ 4611686018427387904) : -4611686018427387904 ≤ a / b ∧ a / b ≤ 4611686018427387904 := by
  have h1 : -4611686018427387904 * b ≤ a := by
    have := Int.mul_le_mul_of_nonneg_left (show 1 ≤ b by omega) (show (0 : Int) ≤ 4611686018427387904 by omega); omega
  have h2 : a < (4611686018427387904 + 1) * b := by
    have := Int.mul_le_mul_of_nonneg_left (show 1 ≤ b by omega) (show (0 : Int) ≤ 4611686018427387905 by omega); omega
  have h3 := (Int.le_ediv_iff_mul_le hb).2 h1
  have h4 := (Int.ediv_lt_iff_lt_mul hb).2 h2
  omega
/-! ### numbers in decimal -/
def numL (n : Int) : List Int := if n < 0 then 45 :: dec (-n).toNat else dec n.toNat
theorem numL_pos {n : Int} (h : 0 ≤ n) : numL n = dec n.toNat := by unfold numL; rw [if_neg (by omega)]
theorem numL_neg {n : Int} (h : n < 0) : numL n = 45 :: dec (-n).toNat := by unfold numL; rw [if_pos h]
theorem sz_bo {s : ByteArray} {l : List Int} (h : bytesOf s = l) : s.size = l.length := by rw [← h, bytesOf_length]
theorem byte_dig {c : Int} (h : Dig c) : byte c := by unfold Dig at h; unfold byte; omega
theorem bo_one {c : Int} (h : byte c) : bytesOf (strOfNums [c]) = [c] := bo_of _ (fun x hx => by simp only [List.mem_singleton] at hx; subst hx; exact h)
theorem bo_lit (l : List UInt8) : bytesOf ⟨l.toArray⟩ = l.map fun b => (b.toNat : Int) := rfl
theorem pow_int (k : Nat) : ((10 ^ k : Nat) : Int) = (10 : Int) ^ k := by simp
theorem dec_len_le' {n : Int} {k : Nat} (h0 : 0 ≤ n) (h : n < 10 ^ (k + 1)) : (dec n.toNat).length ≤ k + 1 := by
  refine dec_len_le k n.toNat ?_
  have := pow_int (k + 1)
  omega
/-- the byte of the last digit -/
theorem dig_byte {n : Int} (h : 0 ≤ n) : (wrap64 (48 + (Int.tmod n 10))) % 256 = 48 + n % 10 := by
  rw [Int.tmod_eq_emod_of_nonneg h, w64 (by omega) (by omega)]; omega
theorem impl_decimal_l0 : ∀ (d : Nat) (n : Int) (x : ByteArray), 0 ≤ n → n < 10 ^ (d + 1) → n ≤ 9223372036854775807 → x.size + d ≤ 4611686018427387904 → ∃ r, Ev (fun k => impl_decimal.l0 k n x) r ∧ bytesOf r = dec n.toNat ++ bytesOf x := by
  intro d
  induction d with
  | zero =>
    intro n x h0 h1 h2 h3
    have hb : bytesOf (strOfNums [48 + n % 10]) = [48 + n % 10] := bo_one (by unfold byte; omega)
    have hs := sz_bo hb
    refine ⟨strOfNums [48 + n % 10] ++ x, Ev.step (fun k => impl_decimal.l0.eq_2 ..) (ev_bind0 rfl ?_), ?_⟩
    · rw [dig_byte h0, Int.tdiv_eq_ediv_of_nonneg h0, w64 (by omega) (by omega)]
      simp only [List.length_singleton] at hs
      exact ev_pos (by omega) (ev_pos (by omega) (Ev.now _))
    · rw [bo_app, hb, dec_small (by omega)]
      congr 2; omega
  | succ d ih =>
    intro n x h0 h1 h2 h3
    have hb : bytesOf (strOfNums [48 + n % 10]) = [48 + n % 10] := bo_one (by unfold byte; omega)
    have hs := sz_bo hb
    simp only [List.length_singleton] at hs
    by_cases g : n / 10 = 0
    · refine ⟨strOfNums [48 + n % 10] ++ x, Ev.step (fun k => impl_decimal.l0.eq_2 ..) (ev_bind0 rfl ?_), ?_⟩
      · rw [dig_byte h0, Int.tdiv_eq_ediv_of_nonneg h0, w64 (by omega) (by omega)]
        exact ev_pos (by omega) (ev_pos g (Ev.now _))
      · rw [bo_app, hb, dec_small (by omega)]
        congr 2; omega
    · obtain ⟨r, hr, e⟩ := ih (n / 10) (strOfNums [48 + n % 10] ++ x) (by omega) (by rw [Int.pow_succ] at h1; omega) (by omega) (by rw [ByteArray.size_append]; omega)
      refine ⟨r, Ev.step (fun k => impl_decimal.l0.eq_2 ..) (ev_bind0 rfl ?_), ?_⟩
      · rw [dig_byte h0, Int.tdiv_eq_ediv_of_nonneg h0, w64 (by omega) (by omega)]
        exact ev_pos (by omega) (ev_neg g hr)
      · rw [e, bo_app, hb, dec_big (n := n.toNat) (by omega), show n.toNat / 10 = (n / 10).toNat by omega, show ((n.toNat % 10 : Nat) : Int) = n % 10 by omega]
        simp
theorem impl_decimal_nn {n : Int} (h0 : 0 ≤ n) (h1 : n ≤ 1000000000000000000) : ∃ r, Ev (fun k => impl_decimal.f k n) r ∧ bytesOf r = dec n.toNat := by
  obtain ⟨r, hr, e⟩ := impl_decimal_l0 18 n ⟨#[]⟩ h0 (by omega) (by omega) (by decide)
  refine ⟨r, Ev.step (fun k => impl_decimal.f.eq_2 ..) (ev_neg (by omega) hr), ?_⟩
  rw [e, bo_nil]; simp
theorem impl_decimal_ev {n : Int} (h0 : -1000000000000000000 ≤ n) (h1 : n ≤ 1000000000000000000) : ∃ r, Ev (fun k => impl_decimal.f k n) r ∧ bytesOf r = numL n := by
  by_cases g : n < 0
  · obtain ⟨r, hr, e⟩ := impl_decimal_nn (n := -n) (by omega) (by omega)
    have hl := dec_len_le' (n := -n) (k := 18) (by omega) (by omega)
    have hs := sz_bo e
    refine ⟨(⟨#[45]⟩ : ByteArray) ++ r, Ev.step (fun k => impl_decimal.f.eq_2 ..) (ev_pos g ?_), ?_⟩
    · rw [w64 (by omega) (by omega)]
      exact hr.bind (ev_pos (by omega) (Ev.now _))
    · rw [bo_app, e, numL_neg g]; rfl
  · obtain ⟨r, hr, e⟩ := impl_decimal_nn (n := n) (by omega) h1
    exact ⟨r, hr, by rw [e, numL_pos (by omega)]⟩
theorem spec_l01Dec_d : ∀ (d : Nat) (n : Int), 0 ≤ n → n < 10 ^ (d + 1) → n ≤ 9223372036854775807 → d ≤ 1000 → ∃ r, Ev (fun k => spec_l01Dec.f k n) r ∧ bytesOf r = dec n.toNat := by
  intro d
  induction d with
  | zero =>
    intro n h0 h1 h2 _
    have hb : bytesOf (strOfNums [48 + n]) = [48 + n] := bo_one (by unfold byte; omega)
    refine ⟨strOfNums [48 + n], Ev.step (fun k => spec_l01Dec.f.eq_2 ..) (ev_pos (by omega) (ev_ret ?_)), ?_⟩
    · rw [w64 (by omega) (by omega), show (48 + n) % 256 = 48 + n by omega]
    · rw [hb, dec_small (by omega)]
      congr 2; omega
  | succ d ih =>
    intro n h0 h1 h2 hd
    by_cases g : n < 10
    · have hb : bytesOf (strOfNums [48 + n]) = [48 + n] := bo_one (by unfold byte; omega)
      refine ⟨strOfNums [48 + n], Ev.step (fun k => spec_l01Dec.f.eq_2 ..) (ev_pos g (ev_ret ?_)), ?_⟩
      · rw [w64 (by omega) (by omega), show (48 + n) % 256 = 48 + n by omega]
      · rw [hb, dec_small (by omega)]
        congr 2; omega
    · have hb : bytesOf (strOfNums [48 + n % 10]) = [48 + n % 10] := bo_one (by unfold byte; omega)
      have hs := sz_bo hb
      simp only [List.length_singleton] at hs
      obtain ⟨r, hr, e⟩ := ih (n / 10) (by omega) (by rw [Int.pow_succ] at h1; omega) (by omega) (by omega)
      have hl := dec_len_le' (n := n / 10) (k := d) (by omega) (by rw [Int.pow_succ] at h1; omega)
      have hsr := sz_bo e
      refine ⟨r ++ strOfNums [48 + n % 10], Ev.step (fun k => spec_l01Dec.f.eq_2 ..) (ev_neg g ?_), ?_⟩
      · rw [dig_byte h0, Int.tdiv_eq_ediv_of_nonneg h0, w64 (by omega) (by omega)]
        exact hr.bind (ev_bind0 rfl (ev_pos (by omega) (Ev.now _)))
      · rw [bo_app, e, hb, dec_big (n := n.toNat) (by omega), show n.toNat / 10 = (n / 10).toNat by omega, show ((n.toNat % 10 : Nat) : Int) = n % 10 by omega]
theorem spec_l01Dec_ev {n : Int} (h0 : 0 ≤ n) (h1 : n ≤ 1000000000000000000) : ∃ r, Ev (fun k => spec_l01Dec.f k n) r ∧ bytesOf r = dec n.toNat := spec_l01Dec_d 18 n h0 (by omega) (by omega) (by omega)
theorem numL_len {n : Int} (h0 : -1000000000000000000 ≤ n) (h1 : n ≤ 1000000000000000000) : (numL n).length ≤ 20 := by
  by_cases g : n < 0
  · rw [numL_neg g]
    have hl := dec_len_le' (n := -n) (k := 18) (by omega) (by omega)
    simp; omega
  · rw [numL_pos (by omega)]
    have hl := dec_len_le' (n := n) (k := 18) (by omega) (by omega)
    omega

/-- a time, written -/
def ttL (t : Int) : List Int := dec (t / 60000).toNat ++ [58, 48 + t / 1000 % 60 / 10, 48 + t / 1000 % 60 % 10, 46, 48 + t % 1000 / 100, 48 + t % 1000 / 10 % 10, 48 + t % 1000 % 10]
theorem dec1 {n : Int} (h0 : 0 ≤ n) (h1 : n < 10) : dec n.toNat = [48 + n] := by
  rw [dec_small (by omega)]; congr 1; omega
theorem dec2 {n : Int} (h0 : 10 ≤ n) (h1 : n < 100) : dec n.toNat = [48 + n / 10, 48 + n % 10] := by
  rw [dec_big (by omega), show n.toNat / 10 = (n / 10).toNat by omega, dec1 (by omega) (by omega)]
  simp only [List.cons_append, List.nil_append]
  congr 3; omega
theorem dec3 {n : Int} (h0 : 100 ≤ n) (h1 : n < 1000) : dec n.toNat = [48 + n / 100, 48 + n / 10 % 10, 48 + n % 10] := by
  rw [dec_big (by omega), show n.toNat / 10 = (n / 10).toNat by omega, dec2 (by omega) (by omega)]
  simp only [List.cons_append, List.nil_append]
  congr 1
  · omega
  · congr 2; omega
theorem pad_step {d : Int} {x : ByteArray} {l : List Int} (h : bytesOf x = l) (g : (l.length : Int) < d) (hd : d ≤ 1000) {r : ByteArray} (e : Ev (fun k => impl_padded.l0 k d ((⟨#[48]⟩ : ByteArray) ++ x)) r) : Ev (fun k => impl_padded.l0 k d x) r := by
  have hs := sz_bo h
  exact Ev.step (fun k => impl_padded.l0.eq_2 ..) (ev_pos (by omega) (ev_pos (by omega) e))
theorem pad_done {d : Int} {x : ByteArray} {l : List Int} (h : bytesOf x = l) (g : ¬ (l.length : Int) < d) : Ev (fun k => impl_padded.l0 k d x) x := by
  have hs := sz_bo h
  exact Ev.step (fun k => impl_padded.l0.eq_2 ..) (ev_neg (by omega) (Ev.now _))
theorem bo_zero (x : ByteArray) : bytesOf ((⟨#[48]⟩ : ByteArray) ++ x) = 48 :: bytesOf x := by rw [bo_app]; rfl
theorem padded2 {n : Int} (h0 : 0 ≤ n) (h1 : n < 100) : ∃ r, Ev (fun k => impl_padded.f k n 2) r ∧ bytesOf r = [48 + n / 10, 48 + n % 10] := by
  obtain ⟨x, hx, e⟩ := impl_decimal_ev (n := n) (by omega) (by omega)
  rw [numL_pos h0] at e
  by_cases g : n < 10
  · rw [dec1 h0 g] at e
    refine ⟨(⟨#[48]⟩ : ByteArray) ++ x, hx.bind (pad_step e (by simp) (by omega) (pad_done (bo_zero x) (by rw [e]; simp))), ?_⟩
    rw [bo_zero, e]; congr 1
    · omega
    · congr 1; omega
  · rw [dec2 (by omega) h1] at e
    exact ⟨x, hx.bind (pad_done e (by simp)), e⟩
theorem padded3 {n : Int} (h0 : 0 ≤ n) (h1 : n < 1000) : ∃ r, Ev (fun k => impl_padded.f k n 3) r ∧ bytesOf r = [48 + n / 100, 48 + n / 10 % 10, 48 + n % 10] := by
  obtain ⟨x, hx, e⟩ := impl_decimal_ev (n := n) (by omega) (by omega)
  rw [numL_pos h0] at e
  by_cases g : n < 10
  · rw [dec1 h0 g] at e
    refine ⟨(⟨#[48]⟩ : ByteArray) ++ ((⟨#[48]⟩ : ByteArray) ++ x), hx.bind (pad_step e (by simp) (by omega) (pad_step (bo_zero x) (by rw [e]; simp) (by omega) (pad_done (bo_zero _) (by rw [bo_zero, e]; simp)))), ?_⟩
    rw [bo_zero, bo_zero, e]; congr 1
    · omega
    · congr 1
      · omega
      · congr 1; omega
  · by_cases g' : n < 100
    · rw [dec2 (by omega) g'] at e
      refine ⟨(⟨#[48]⟩ : ByteArray) ++ x, hx.bind (pad_step e (by simp) (by omega) (pad_done (bo_zero x) (by rw [e]; simp))), ?_⟩
      rw [bo_zero, e]; congr 1
      · omega
      · congr 1; omega
    · rw [dec3 (by omega) h1] at e
      exact ⟨x, hx.bind (pad_done e (by simp)), e⟩
theorem impl_timeText_ev {t : Int} (h0 : 0 ≤ t) (h1 : t ≤ 10000000) : ∃ r, Ev (fun k => impl_timeText.f k t) r ∧ bytesOf r = ttL t := by
  obtain ⟨a, ha, ea⟩ := impl_decimal_ev (n := t / 60000) (by omega) (by omega)
  obtain ⟨b, hb, eb⟩ := padded2 (n := t / 1000 % 60) (by omega) (by omega)
  obtain ⟨c, hc, ec⟩ := padded3 (n := t % 1000) (by omega) (by omega)
  rw [numL_pos (by omega)] at ea
  have la := dec_len_le' (n := t / 60000) (k := 3) (by omega) (by omega)
  have sa := sz_bo ea
  have sb := sz_bo eb
  have sc := sz_bo ec
  simp only [List.length_cons, List.length_nil] at sb sc
  have l1 : (⟨#[58]⟩ : ByteArray).size = 1 := rfl
  have l2 : (⟨#[46]⟩ : ByteArray).size = 1 := rfl
  refine ⟨(((a ++ (⟨#[58]⟩ : ByteArray)) ++ b) ++ (⟨#[46]⟩ : ByteArray)) ++ c, ?_, ?_⟩
  · unfold impl_timeText.f
    rw [Int.tdiv_eq_ediv_of_nonneg h0, Int.tdiv_eq_ediv_of_nonneg h0, w64 (n := t / 60000) (by omega) (by omega), w64 (n := t / 1000) (by omega) (by omega), Int.tmod_eq_emod_of_nonneg (show 0 ≤ t / 1000 by omega), Int.tmod_eq_emod_of_nonneg h0]
    refine ha.bind (ev_pos (by omega) (hb.bind (ev_pos (by simp only [ByteArray.size_append]; omega) (ev_pos (by simp only [ByteArray.size_append]; omega) (hc.bind (ev_pos (by simp only [ByteArray.size_append]; omega) (Ev.now _)))))))
  · simp only [bo_app, ea, eb, ec]
    unfold ttL
    simp [bo_lit]
theorem spec_l01Time_ev {t : Int} (h0 : 0 ≤ t) (h1 : t ≤ 20000000) : ∃ r, Ev (fun k => spec_l01Time.f k t) r ∧ bytesOf r = ttL t := by
  obtain ⟨a, ha, ea⟩ := spec_l01Dec_ev (n := t / 60000) (by omega) (by omega)
  obtain ⟨b, hb, eb⟩ := spec_l01Dec_ev (n := t / 1000 % 60 / 10) (by omega) (by omega)
  obtain ⟨c, hc, ec⟩ := spec_l01Dec_ev (n := t / 1000 % 60 % 10) (by omega) (by omega)
  obtain ⟨d, hd, ed⟩ := spec_l01Dec_ev (n := t % 1000 / 100) (by omega) (by omega)
  obtain ⟨e, he, ee⟩ := spec_l01Dec_ev (n := t % 1000 / 10 % 10) (by omega) (by omega)
  obtain ⟨f, hf, ef⟩ := spec_l01Dec_ev (n := t % 1000 % 10) (by omega) (by omega)
  rw [dec1 (by omega) (by omega)] at eb ec ed ee ef
  have la := dec_len_le' (n := t / 60000) (k := 3) (by omega) (by omega)
  have sa := sz_bo ea
  have sb := sz_bo eb
  have sc := sz_bo ec
  have sd := sz_bo ed
  have se := sz_bo ee
  have sf := sz_bo ef
  simp only [List.length_cons, List.length_nil] at sb sc sd se sf
  have l1 : (⟨#[58]⟩ : ByteArray).size = 1 := rfl
  have l2 : (⟨#[46]⟩ : ByteArray).size = 1 := rfl
  refine ⟨((((((a ++ (⟨#[58]⟩ : ByteArray)) ++ b) ++ c) ++ (⟨#[46]⟩ : ByteArray)) ++ d) ++ e) ++ f, ?_, ?_⟩
  · unfold spec_l01Time.f
    rw [Int.tdiv_eq_ediv_of_nonneg h0, Int.tdiv_eq_ediv_of_nonneg h0, w64 (n := t / 60000) (by omega) (by omega), w64 (n := t / 1000) (by omega) (by omega), Int.tmod_eq_emod_of_nonneg (show 0 ≤ t / 1000 by omega), Int.tmod_eq_emod_of_nonneg h0,
      Int.tdiv_eq_ediv_of_nonneg (show 0 ≤ t / 1000 % 60 by omega), Int.tmod_eq_emod_of_nonneg (show 0 ≤ t / 1000 % 60 by omega), Int.tdiv_eq_ediv_of_nonneg (show 0 ≤ t % 1000 by omega), Int.tdiv_eq_ediv_of_nonneg (show 0 ≤ t % 1000 by omega), Int.tmod_eq_emod_of_nonneg (show 0 ≤ t % 1000 by omega),
      w64 (n := t / 1000 % 60 / 10) (by omega) (by omega), w64 (n := t % 1000 / 100) (by omega) (by omega), w64 (n := t % 1000 / 10) (by omega) (by omega), Int.tmod_eq_emod_of_nonneg (show 0 ≤ t % 1000 / 10 by omega)]
    refine ha.bind (ev_pos (by omega) (hb.bind (ev_pos (by simp only [ByteArray.size_append]; omega) (hc.bind (ev_pos (by simp only [ByteArray.size_append]; omega) (ev_pos (by simp only [ByteArray.size_append]; omega) (hd.bind (ev_pos (by simp only [ByteArray.size_append]; omega) (he.bind (ev_pos (by simp only [ByteArray.size_append]; omega) (hf.bind (ev_pos (by simp only [ByteArray.size_append]; omega) (Ev.now _)))))))))))))
  · simp only [bo_app, ea, eb, ec, ed, ee, ef]
    unfold ttL
    simp [bo_lit]
theorem impl_TimeText_in {t : Int} (h0 : 0 ≤ t) (h1 : t ≤ 10000000) : ∃ r, Ev (fun k => impl_TimeText.f k t) (r, 0) ∧ bytesOf r = ttL t := by
  obtain ⟨r, hr, e⟩ := impl_timeText_ev h0 h1
  refine ⟨r, ?_, e⟩
  unfold impl_TimeText.f impl_isTime.f
  rw [within_eq, Option.bind_some]
  exact ev_bind0 rfl (ev_pos (by simp; omega) (hr.bind (Ev.now _)))
theorem impl_TimeText_out {t : Int} (h : ¬ (0 ≤ t ∧ t ≤ 10000000)) : Ev (fun k => impl_TimeText.f k t) (⟨#[]⟩, 2) := by
  unfold impl_TimeText.f impl_isTime.f
  rw [within_eq, Option.bind_some]
  exact ev_bind0 rfl (ev_neg (by simp; omega) (Ev.now _))
theorem spec_TimeText_in {t : Int} (h0 : 0 ≤ t) (h1 : t ≤ 10000000) : ∃ r, Ev (fun k => spec_TimeText.f k t) (r, 0) ∧ bytesOf r = ttL t := by
  obtain ⟨r, hr, e⟩ := spec_l01Time_ev h0 (by omega)
  refine ⟨r, ?_, e⟩
  unfold spec_TimeText.f spec_l01IsTime.f
  rw [in_eq, Option.bind_some]
  exact ev_bind0 rfl (ev_pos (by simp; omega) (hr.bind (Ev.now _)))
theorem spec_TimeText_out {t : Int} (h : ¬ (0 ≤ t ∧ t ≤ 10000000)) : Ev (fun k => spec_TimeText.f k t) (⟨#[]⟩, 2) := by
  unfold spec_TimeText.f spec_l01IsTime.f
  rw [in_eq, Option.bind_some]
  exact ev_bind0 rfl (ev_neg (by simp; omega) (Ev.now _))
/-- Both write the same. -/
theorem TimeText_both (t : Int) : ∃ r c, Ev (fun k => impl_TimeText.f k t) (r, c) ∧ Ev (fun k => spec_TimeText.f k t) (r, c) ∧ ((c = 0 ∧ 0 ≤ t ∧ t ≤ 10000000 ∧ bytesOf r = ttL t) ∨ (c = 2 ∧ ¬ (0 ≤ t ∧ t ≤ 10000000))) := by
  by_cases h : 0 ≤ t ∧ t ≤ 10000000
  · obtain ⟨a, ha, ea⟩ := impl_TimeText_in h.1 h.2
    obtain ⟨b, hb, eb⟩ := spec_TimeText_in h.1 h.2
    obtain rfl : a = b := bo_inj (by rw [ea, eb])
    exact ⟨a, 0, ha, hb, .inl ⟨rfl, h.1, h.2, ea⟩⟩
  · exact ⟨_, 2, impl_TimeText_out h, spec_TimeText_out h, .inr ⟨rfl, h⟩⟩

/-! ### numbers, read -/
theorem val_take_step {v c : Int} (h : Dig c) (h0 : 0 ≤ v) (h1 : v ≤ 100000000000000000) : wrap64 ((wrap64 (10 * v)) + ((c - 48) % 256)) = 10 * v + (c - 48) := by
  unfold Dig at h
  rw [w64 (n := 10 * v) (by omega) (by omega), show (c - 48) % 256 = c - 48 by omega, w64 (by omega) (by omega)]
def foldV (v : Int) (l : List Int) : Int := l.foldl (fun a c => 10 * a + (c - 48)) v
theorem foldV_cons (v c : Int) (l : List Int) : foldV v (c :: l) = foldV (10 * v + (c - 48)) l := rfl
theorem foldV_zero (l : List Int) : foldV 0 l = val l := rfl
instance (c : Int) : Decidable (Dig c) := by unfold Dig; infer_instance
def allDig (l : List Int) : Bool := l.all fun c => decide (Dig c)
theorem allDig_iff {l : List Int} : allDig l = true ↔ ∀ c ∈ l, Dig c := by unfold allDig; simp
theorem allDig_cons {c : Int} {l : List Int} : allDig (c :: l) = (decide (Dig c) && allDig l) := rfl
theorem dig_lo {c : Int} (h : c < 48) : ¬ Dig c := by unfold Dig; omega
theorem dig_hi {c : Int} (h : c > 57) : ¬ Dig c := by unfold Dig; omega
theorem dig_in {c : Int} (h : ¬ c < 48) (h' : ¬ c > 57) : Dig c := by unfold Dig; omega
/-- the digits of a number, read one by one: v holds what has been read, less than ten to the power of what is left of eighteen -/
theorem impl_readDecimal_l0 (x s : ByteArray) (hs : s.size ≤ 18) : ∀ (R : List Int) (i : Nat) (v : Int), (bytesOf s).drop i = R → i ≤ s.size → 0 ≤ v → v < 10 ^ i →
    Ev (fun k => impl_readDecimal.l0 k x s v i) (if allDig R = true then ((if s.size < x.size then -(foldV v R) else foldV v R), true) else (0, false)) := by
  intro R
  induction R with
  | nil =>
    intro i v h hi v0 v1
    have h1 := bo_drop_nil h
    have hp : (10 : Int) ^ i ≤ 10 ^ 18 := by
      have := Nat.pow_le_pow_right (show 0 < 10 by omega) (show i ≤ 18 by omega)
      have e1 := pow_int i
      have e2 := pow_int 18
      omega
    refine Ev.step (fun k => impl_readDecimal.l0.eq_2 ..) (ev_neg (by omega) ?_)
    rw [if_pos (show allDig [] = true from rfl)]
    by_cases g : s.size < x.size
    · refine ev_pos (by omega) (ev_ret ?_)
      rw [if_pos g, w64 (by omega) (by omega)]; rfl
    · refine ev_neg (by omega) (ev_ret ?_)
      rw [if_neg g]; rfl
  | cons c R ih =>
    intro i v h hi v0 v1
    obtain ⟨h1, h2, h3⟩ := bt_drop h
    have hp : (10 : Int) ^ i ≤ 10 ^ 17 := by
      have := Nat.pow_le_pow_right (show 0 < 10 by omega) (show i ≤ 17 by omega)
      have e1 := pow_int i
      have e2 := pow_int 17
      omega
    refine Ev.step (fun k => impl_readDecimal.l0.eq_2 ..) (ev_pos (by omega) (ev_pos (by omega) ?_))
    rw [h2]
    by_cases a : c < 48
    · exact ev_pos a (ev_ret (by rw [allDig_cons]; simp [dig_lo a]))
    · refine ev_neg a ?_
      by_cases b : c > 57
      · exact ev_pos b (ev_ret (by rw [allDig_cons]; simp [dig_hi b]))
      · refine ev_neg b ?_
        have hd := dig_in a b
        rw [val_take_step hd v0 (by omega), w64 (n := (i : Int) + 1) (by omega) (by omega)]
        have := ih (i + 1) (10 * v + (c - 48)) h3 (by omega) (by unfold Dig at hd; omega) (by unfold Dig at hd; rw [Int.pow_succ]; omega)
        rw [allDig_cons, foldV_cons]
        simp only [hd, decide_true, Bool.true_and]
        exact this
/-- what readDecimal answers -/
def readD1 (D l : List Int) : Int × Bool :=
  if D.length = 0 ∨ D.length > 18 ∨ (D.head? = some 48 ∧ (D.length > 1 ∨ l.length > 1)) then (0, false)
  else if allDig D = true then ((if D.length < l.length then -(val D) else val D), true) else (0, false)
def readD (l : List Int) : Int × Bool := if l.head? = some 45 then readD1 l.tail l else readD1 l l
theorem impl_readDecimal_j2 (x s : ByteArray) (hs : s.size ≤ 18) : Ev (fun k => impl_readDecimal.j2 k x s false) (if allDig (bytesOf s) = true then ((if s.size < x.size then -(val (bytesOf s)) else val (bytesOf s)), true) else (0, false)) := by
  have := impl_readDecimal_l0 x s hs (bytesOf s) 0 0 rfl (by omega) (by omega) (by decide)
  exact Ev.step (fun k => impl_readDecimal.j2.eq_2 ..) (ev_neg (by simp) this)
theorem impl_readDecimal_j2t (x s : ByteArray) : Ev (fun k => impl_readDecimal.j2 k x s true) (0, false) := Ev.step (fun k => impl_readDecimal.j2.eq_2 ..) (ev_pos rfl (Ev.now _))
theorem bt_head {s : ByteArray} (h : 0 < s.size) : (bytesOf s).head? = some (bt s 0) := by
  have hl := bytesOf_length s
  cases hb : bytesOf s with
  | nil => rw [hb] at hl; simp at hl; omega
  | cons c R =>
    obtain ⟨_, h2, _⟩ := bt_drop (i := 0) (R := R) (c := c) (s := s) (by rw [hb]; rfl)
    simp only [List.head?_cons, Option.some.injEq]
    exact h2.symm
theorem impl_readDecimal_j1 (x s : ByteArray) (hx : x.size ≤ 4611686018427387904) (hsx : s.size ≤ x.size) : Ev (fun k => impl_readDecimal.j1 k x s) (readD1 (bytesOf s) (bytesOf x)) := by
  have hl := bytesOf_length s
  have hlx := bytesOf_length x
  unfold readD1
  refine Ev.step (fun k => impl_readDecimal.j1.eq_2 ..) ?_
  by_cases a : (s.size : Int) = 0
  · rw [if_pos (.inl (by omega))]
    exact ev_pos a (impl_readDecimal_j2t x s)
  refine ev_neg a ?_
  by_cases b : (s.size : Int) > 18
  · rw [if_pos (.inr (.inl (by omega)))]
    exact ev_pos b (impl_readDecimal_j2t x s)
  refine ev_neg b (ev_pos (by omega) ?_)
  have hh := bt_head (s := s) (by omega)
  have hj := impl_readDecimal_j2 x s (by omega)
  rw [← hl, ← hlx] at hj
  by_cases c : bt s 0 = 48
  · refine ev_pos c ?_
    by_cases d : (s.size : Int) > 1
    · rw [if_pos (.inr (.inr ⟨by rw [hh, c], .inl (by omega)⟩))]
      exact ev_pos d (impl_readDecimal_j2t x s)
    · refine ev_neg d ?_
      by_cases e : (x.size : Int) > 1
      · rw [if_pos (.inr (.inr ⟨by rw [hh, c], .inr (by omega)⟩)), show decide ((x.size : Int) > 1) = true from decide_eq_true e]
        exact impl_readDecimal_j2t x s
      · rw [show decide ((x.size : Int) > 1) = false from decide_eq_false e, if_neg (by omega)]
        exact hj
  · refine ev_neg c ?_
    rw [if_neg (by rintro (h | h | ⟨h, _⟩); omega; omega; rw [hh] at h; exact c (Option.some.inj h))]
    exact hj
theorem impl_readDecimal_ev (s : ByteArray) (hs : s.size ≤ 4611686018427387904) : Ev (fun k => impl_readDecimal.f k s) (readD (bytesOf s)) := by
  have hl := bytesOf_length s
  unfold impl_readDecimal.f
  by_cases a : (s.size : Int) > 0
  · refine ev_pos a (ev_pos (by omega) ?_)
    have hh := bt_head (s := s) (by omega)
    by_cases b : bt s 0 = 45
    · have e : (bt s 0 == 45) = true := beq_iff_eq.2 b
      rw [e]
      refine Ev.step (fun k => impl_readDecimal.j0.eq_2 ..) (ev_pos rfl (ev_pos (by omega) ?_))
      have hx : bytesOf (s.extract 1 s.size) = (bytesOf s).tail := by
        rw [bo_ext, List.take_of_length_le (by omega), List.drop_one]
      have := impl_readDecimal_j1 s (s.extract 1 s.size) hs (by rw [ByteArray.size_extract]; omega)
      rw [hx] at this
      unfold readD
      rw [if_pos (by rw [hh, b])]
      exact this
    · have e : (bt s 0 == 45) = false := beq_eq_false_iff_ne.2 b
      rw [e]
      refine Ev.step (fun k => impl_readDecimal.j0.eq_2 ..) (ev_neg (by simp) ?_)
      have := impl_readDecimal_j1 s s hs (by omega)
      unfold readD
      rw [if_neg (by rw [hh]; intro h; exact b (Option.some.inj h))]
      exact this
  · refine ev_neg a (Ev.step (fun k => impl_readDecimal.j0.eq_2 ..) (ev_neg (by simp) ?_))
    have := impl_readDecimal_j1 s s hs (by omega)
    unfold readD
    have h0 : bytesOf s = [] := List.eq_nil_of_length_eq_zero (by omega)
    rw [if_neg (by rw [h0]; simp)]
    exact this
/-- It reads just what was written. -/
theorem dec_allDig (n : Nat) : allDig (dec n) = true := allDig_iff.2 (dec_dig n)
theorem dec_head45 (n : Nat) : (dec n).head? ≠ some 45 := by
  intro h
  have : (45 : Int) ∈ dec n := List.mem_of_mem_head? h
  have := dec_dig n 45 this
  unfold Dig at this; omega
theorem dec_head48 {n : Nat} (h : (dec n).head? = some 48) : n = 0 := by
  rcases Nat.eq_zero_or_pos n with g | g
  · exact g
  · exact absurd rfl (dec_head n g 48 h)
theorem readD_numL {n : Int} (h0 : -1000000000000000000 < n) (h1 : n < 1000000000000000000) : readD (numL n) = (n, true) := by
  unfold readD
  by_cases g : n < 0
  · rw [numL_neg g]
    have hl := dec_len_le' (n := -n) (k := 17) (by omega) (by omega)
    have hp := dec_len_pos (-n).toNat
    rw [if_pos (by rfl), List.tail_cons]
    unfold readD1
    rw [if_neg (by
      rintro (h | h | ⟨h, _⟩)
      · omega
      · omega
      · have := dec_head48 h; omega), if_pos (dec_allDig _), if_pos (by simp), val_dec]
    congr 1; omega
  · rw [numL_pos (by omega)]
    have hl := dec_len_le' (n := n) (k := 17) (by omega) (by omega)
    have hp := dec_len_pos n.toNat
    rw [if_neg (dec_head45 _)]
    unfold readD1
    rw [if_neg (by
      rintro (h | h | ⟨h, h'⟩)
      · omega
      · omega
      · have e := dec_head48 h
        have : (dec n.toNat).length = 1 := by rw [e, dec_small (by omega)]; rfl
        omega), if_pos (dec_allDig _), if_neg (by omega), val_dec]
    congr 1; omega
theorem readD_inv {l : List Int} {n : Int} (h : readD l = (n, true)) : l = numL n ∧ -1000000000000000000 < n ∧ n < 1000000000000000000 := by
  unfold readD at h
  by_cases g : l.head? = some 45
  · rw [if_pos g] at h
    obtain ⟨D, rfl⟩ : ∃ D, l = 45 :: D := by
      cases l with
      | nil => simp at g
      | cons c D => simp only [List.head?_cons, Option.some.injEq] at g; subst g; exact ⟨D, rfl⟩
    simp only [List.tail_cons] at h
    unfold readD1 at h
    split at h
    · simp at h
    · rename_i h1
      split at h
      · rename_i h2
        have hD : D ≠ [] := by intro e; subst e; simp at h1
        have hd := allDig_iff.1 h2
        have h48 : D.head? ≠ some 48 := fun e => h1 (.inr (.inr ⟨e, .inr (by
          have : 1 ≤ D.length := by cases D with | nil => exact absurd rfl hD | cons => simp
          simp; omega)⟩))
        have hv := dec_val D hd hD (fun e => absurd e h48)
        have hlt := val_lt D hd
        have hpos : 1 ≤ val D := by
          rcases Int.lt_or_le (val D) 1 with q | q
          · have e0 : val D = 0 := by omega
            have := hv.1
            rw [e0] at this
            rw [← this] at h48
            exact absurd (by rw [Int.toNat_zero, dec_small (by omega)]; rfl) h48
          · exact q
        rw [if_pos (by simp)] at h
        have e : -(val D) = n := (Prod.mk.inj h).1
        have hp : (10 : Int) ^ D.length ≤ 10 ^ 18 := by
          have h18 : D.length ≤ 18 := by
            rcases Nat.lt_or_ge 18 D.length with q | q
            · exact absurd (.inr (.inl q)) h1
            · exact q
          have := Nat.pow_le_pow_right (show 0 < 10 by omega) h18
          have e1 := pow_int D.length
          have e2 := pow_int 18
          omega
        refine ⟨?_, by omega, by omega⟩
        rw [numL_neg (by omega), show -n = val D by omega, hv.1]
      · simp at h
  · rw [if_neg g] at h
    unfold readD1 at h
    split at h
    · simp at h
    · rename_i h1
      split at h
      · rename_i h2
        have hD : l ≠ [] := by intro e; subst e; simp at h1
        have hd := allDig_iff.1 h2
        have hv := dec_val l hd hD (fun e => by
          rcases Nat.lt_or_ge 1 l.length with q | q
          · exact absurd (.inr (.inr ⟨e, .inl q⟩)) h1
          · have : 1 ≤ l.length := by cases l with | nil => exact absurd rfl hD | cons => simp
            omega)
        have hlt := val_lt l hd
        rw [if_neg (by omega)] at h
        have e : val l = n := (Prod.mk.inj h).1
        have hp : (10 : Int) ^ l.length ≤ 10 ^ 18 := by
          have h18 : l.length ≤ 18 := by
            rcases Nat.lt_or_ge 18 l.length with q | q
            · exact absurd (.inr (.inl q)) h1
            · exact q
          have := Nat.pow_le_pow_right (show 0 < 10 by omega) h18
          have e1 := pow_int l.length
          have e2 := pow_int 18
          omega
        refine ⟨?_, by omega, by omega⟩
        rw [numL_pos (by omega), ← e, hv.1]
      · simp at h
theorem readD1_not {D l : List Int} (h : (readD1 D l).2 = false) : readD1 D l = (0, false) := by
  unfold readD1 at h ⊢
  split
  · rfl
  · rename_i h1
    rw [if_neg h1] at h
    split
    · rename_i h2
      rw [if_pos h2] at h; simp at h
    · rfl
theorem readD_not {l : List Int} (h : (readD l).2 = false) : readD l = (0, false) := by
  unfold readD at h ⊢
  split
  · rename_i h1
    rw [if_pos h1] at h
    exact readD1_not h
  · rename_i h1
    rw [if_neg h1] at h
    exact readD1_not h

def valueL (l : List Int) : Int × Bool := if l.length < 1 ∨ l.length > 13 then (0, false) else if allDig l = true then (val l, decide (dec (val l).toNat = l)) else (0, false)
def signedL (l : List Int) : Int × Bool := if l.head? = some 45 then (-(valueL l.tail).1, (valueL l.tail).2 && decide ((valueL l.tail).1 > 0)) else valueL l
theorem foldV_val : ∀ (l : List Int) (v : Int), foldV v l = v * 10 ^ l.length + val l
  | [], v => by simp [foldV, val]
  | c :: l, v => by
    rw [foldV_cons, foldV_val l, ← foldV_zero (c :: l), foldV_cons, foldV_val l, List.length_cons, Int.pow_succ]
    grind
theorem spec_l01Value_l0 (s : ByteArray) (hs : s.size ≤ 13) (hz : ∀ c ∈ bytesOf s, byte c) : ∀ (R : List Int) (i : Nat) (v : Int), (bytesOf s).drop i = R → i ≤ s.size → 0 ≤ v → v < 10 ^ i →
    Ev (fun k => spec_l01Value.l0 k s v i) (if allDig R = true then (foldV v R, decide (dec (foldV v R).toNat = bytesOf s)) else (0, false)) := by
  intro R
  induction R with
  | nil =>
    intro i v h hi v0 v1
    have h1 := bo_drop_nil h
    have hp : (10 : Int) ^ i ≤ 10 ^ 13 := by
      have := Nat.pow_le_pow_right (show 0 < 10 by omega) (show i ≤ 13 by omega)
      have e1 := pow_int i
      have e2 := pow_int 13
      omega
    obtain ⟨r, hr, e⟩ := spec_l01Dec_ev (n := v) v0 (by omega)
    refine Ev.step (fun k => spec_l01Value.l0.eq_2 ..) (ev_neg (by omega) (hr.bind (ev_ret ?_)))
    rw [if_pos (show allDig [] = true from rfl)]
    show (v, r.toList == s.toList) = (v, decide (dec v.toNat = bytesOf s))
    congr 1
    rw [Bool.eq_iff_iff, beq_iff_eq, toList_eq, decide_eq_true_eq, bo_eq, e]
  | cons c R ih =>
    intro i v h hi v0 v1
    obtain ⟨h1, h2, h3⟩ := bt_drop h
    have hp : (10 : Int) ^ i ≤ 10 ^ 13 := by
      have := Nat.pow_le_pow_right (show 0 < 10 by omega) (show i ≤ 13 by omega)
      have e1 := pow_int i
      have e2 := pow_int 13
      omega
    refine Ev.step (fun k => spec_l01Value.l0.eq_2 ..) (ev_pos (by omega) (ev_pos (by omega) ?_))
    rw [h2]
    by_cases a : c < 48
    · exact ev_pos a (ev_ret (by rw [allDig_cons]; simp [dig_lo a]))
    · refine ev_neg a ?_
      by_cases b : c > 57
      · exact ev_pos b (ev_ret (by rw [allDig_cons]; simp [dig_hi b]))
      · refine ev_neg b ?_
        have hd := dig_in a b
        rw [val_take_step hd v0 (by omega), w64 (n := (i : Int) + 1) (by omega) (by omega)]
        have := ih (i + 1) (10 * v + (c - 48)) h3 (by omega) (by unfold Dig at hd; omega) (by unfold Dig at hd; rw [Int.pow_succ]; omega)
        rw [allDig_cons, foldV_cons]
        simp only [hd, decide_true, Bool.true_and]
        exact this
theorem spec_l01Value_ev (s : ByteArray) : Ev (fun k => spec_l01Value.f k s) (valueL (bytesOf s)) := by
  have hl := bytesOf_length s
  unfold spec_l01Value.f valueL
  by_cases a : (s.size : Int) < 1
  · rw [if_pos (.inl (by omega))]
    exact ev_pos a (Ev.step (fun k => spec_l01Value.j0.eq_2 ..) (ev_pos rfl (Ev.now _)))
  · refine ev_neg a (Ev.step (fun k => spec_l01Value.j0.eq_2 ..) ?_)
    by_cases b : (s.size : Int) > 13
    · rw [if_pos (.inr (by omega))]
      exact ev_pos (by simpa using b) (Ev.now _)
    · rw [if_neg (by omega)]
      exact ev_neg (by simpa using b) (spec_l01Value_l0 s (by omega) (bo_byte s) (bytesOf s) 0 0 rfl (by omega) (by omega) (by decide))
theorem valueL_bound (l : List Int) : 0 ≤ (valueL l).1 ∧ (valueL l).1 < 10000000000000 := by
  unfold valueL
  split
  · simp
  · rename_i h
    split
    · rename_i h2
      have := val_lt l (allDig_iff.1 h2)
      have hp : (10 : Int) ^ l.length ≤ 10 ^ 13 := by
        have := Nat.pow_le_pow_right (show 0 < 10 by omega) (show l.length ≤ 13 by omega)
        have e1 := pow_int l.length
        have e2 := pow_int 13
        omega
      exact ⟨this.1, by show val l < _; omega⟩
    · simp
theorem valueL_dec {n : Int} (h0 : 0 ≤ n) (h1 : n < 10000000000000) : valueL (dec n.toNat) = (n, true) := by
  have hl := dec_len_le' (n := n) (k := 12) h0 (by omega)
  have hp := dec_len_pos n.toNat
  unfold valueL
  rw [if_neg (by omega), if_pos (dec_allDig _), val_dec, show ((n.toNat : Nat) : Int) = n by omega]
  simp
theorem valueL_inv {l : List Int} {n : Int} (h : valueL l = (n, true)) : l = dec n.toNat ∧ 0 ≤ n ∧ n < 10000000000000 := by
  have hb := valueL_bound l
  rw [h] at hb
  unfold valueL at h
  split at h
  · simp at h
  · split at h
    · simp only [Prod.mk.injEq, decide_eq_true_eq] at h
      rw [← h.1]
      exact ⟨h.2.symm, by have := h.1; omega, by have := h.1; omega⟩
    · simp at h
theorem signedL_num {n : Int} (h0 : -10000000000000 < n) (h1 : n < 10000000000000) : signedL (numL n) = (n, true) := by
  unfold signedL
  by_cases g : n < 0
  · rw [numL_neg g, if_pos (by rfl), List.tail_cons, valueL_dec (by omega) (by omega)]
    simp; omega
  · rw [numL_pos (by omega), if_neg (dec_head45 _), valueL_dec (by omega) (by omega)]
theorem signedL_inv {l : List Int} {n : Int} (h : signedL l = (n, true)) : l = numL n ∧ -10000000000000 < n ∧ n < 10000000000000 := by
  unfold signedL at h
  by_cases g : l.head? = some 45
  · rw [if_pos g] at h
    obtain ⟨D, rfl⟩ : ∃ D, l = 45 :: D := by
      cases l with
      | nil => simp at g
      | cons c D => simp only [List.head?_cons, Option.some.injEq] at g; subst g; exact ⟨D, rfl⟩
    simp only [List.tail_cons, Prod.mk.injEq, Bool.and_eq_true, decide_eq_true_eq] at h
    obtain ⟨h1, h2, h3⟩ := h
    have hv := valueL_inv (l := D) (n := (valueL D).1) (by rw [← h2])
    have h4 := of_decide_eq_true h3
    rw [numL_neg (show n < 0 by omega), show -n = (valueL D).1 by omega, ← hv.1]
    exact ⟨rfl, by omega, by omega⟩
  · rw [if_neg g] at h
    have hv := valueL_inv h
    rw [numL_pos hv.2.1]
    exact ⟨hv.1, by omega, by omega⟩
theorem valueL_of {l : List Int} (h : ∀ c ∈ l, Dig c) (h1 : 1 ≤ l.length) (h2 : l.length ≤ 13) (hz : l.head? = some 48 → l.length = 1) : valueL l = (val l, true) := by
  unfold valueL
  rw [if_neg (by omega), if_pos (allDig_iff.2 h), decide_eq_true (dec_val l h (by intro e; subst e; simp at h1) hz).1]

theorem ttL_inj {s t : Int} (hs : 0 ≤ s) (ht : 0 ≤ t) (h : ttL s = ttL t) : s = t := by
  unfold ttL at h
  have hl : (dec (s / 60000).toNat).length = (dec (t / 60000).toNat).length := by
    have := congrArg List.length h
    simp only [List.length_append, List.length_cons, List.length_nil] at this
    omega
  obtain ⟨h1, h2⟩ := List.append_inj h hl
  have h3 := dec_inj h1
  simp only [List.cons.injEq, and_true, true_and] at h2
  omega
/-- both answer this -/
def ReadT (l : List Int) (r : Int × Int) : Prop := (∃ t, 0 ≤ t ∧ t ≤ 10000000 ∧ l = ttL t ∧ r = (t, 0)) ∨ ((∀ t, 0 ≤ t → t ≤ 10000000 → l ≠ ttL t) ∧ r = (0, 6))
theorem readT_uniq {l : List Int} {a b : Int × Int} (h : ReadT l a) (k : ReadT l b) : a = b := by
  rcases h with ⟨t, t0, t1, h1, rfl⟩ | ⟨h1, rfl⟩ <;> rcases k with ⟨u, u0, u1, k1, rfl⟩ | ⟨k1, rfl⟩
  · rw [ttL_inj t0 u0 (h1.symm.trans k1)]
  · exact absurd h1 (k1 t t0 t1)
  · exact absurd k1 (h1 u u0 u1)
  · rfl
theorem ttL_len {t : Int} (h0 : 0 ≤ t) (h1 : t ≤ 10000000) : 8 ≤ (ttL t).length ∧ (ttL t).length ≤ 10 := by
  have hl := dec_len_le' (n := t / 60000) (k := 2) (by omega) (by omega)
  have hp := dec_len_pos (t / 60000).toNat
  unfold ttL
  simp only [List.length_append, List.length_cons, List.length_nil]
  omega
/-- what is left to read where the text is no time: nothing comes of it -/
theorem impl_ReadTime_fin_no {s : ByteArray} {m : Int} (hno : ∀ t, 0 ≤ t → t ≤ 10000000 → bytesOf s ≠ ttL t) (v : Int) :
    Ev (fun k => (impl_isTime.f (wrap64 ((wrap64 (60000 * m)) + v))).bind fun t134 => (if t134 = true then ((impl_timeText.f k (wrap64 ((wrap64 (60000 * m)) + v))).bind fun t135 => (if t135.toList = s.toList then (some (wrap64 ((wrap64 (60000 * m)) + v), (0 : Int))) else (some (0, 6)))) else (some (0, 6)))) (0, 6) := by
  generalize wrap64 ((wrap64 (60000 * m)) + v) = t
  have e : impl_isTime.f t = some (decide (0 ≤ t ∧ t ≤ 10000000)) := by unfold impl_isTime.f; rw [within_eq]; rfl
  refine ev_bind0 e ?_
  by_cases g : 0 ≤ t ∧ t ≤ 10000000
  · refine ev_pos (by simpa using g) ?_
    obtain ⟨r, hr, er⟩ := impl_timeText_ev g.1 g.2
    refine hr.bind (ev_neg ?_ (Ev.now _))
    rw [toList_eq]
    intro h
    exact hno t g.1 g.2 (by rw [← er, h])
  · exact ev_neg (by simpa using g) (Ev.now _)
theorem impl_ReadTime_l0_no {s : ByteArray} (hs : s.size ≤ 1000000) {at_ m : Int} (ha : 0 ≤ at_) (ha' : at_ ≤ 1000000) (hno : ∀ t, 0 ≤ t → t ≤ 10000000 → bytesOf s ≠ ttL t) : ∀ (d : Nat) (i v : Int), (s.size : Int) - i = d → 0 ≤ i → Ev (fun k => impl_ReadTime.l0 k s at_ m v i) (0, 6) := by
  intro d
  induction d with
  | zero =>
    intro i v hd hi
    exact Ev.step (fun k => impl_ReadTime.l0.eq_2 ..) (ev_neg (by omega) (impl_ReadTime_fin_no hno v))
  | succ d ih =>
    intro i v hd hi
    refine Ev.step (fun k => impl_ReadTime.l0.eq_2 ..) (ev_pos (by omega) ?_)
    rw [w64 (n := i + 1) (by omega) (by omega), w64 (n := at_ + 3) (by omega) (by omega)]
    by_cases a : i = at_ + 3
    · exact ev_pos a (ih (i + 1) v (by omega) (by omega))
    · refine ev_neg a (ev_pos hi ?_)
      by_cases b : bt s i < 48
      · exact ev_pos b (Ev.now _)
      · refine ev_neg b ?_
        by_cases c : bt s i > 57
        · exact ev_pos c (Ev.now _)
        · exact ev_neg c (ih (i + 1) _ (by omega) (by omega))
theorem impl_ReadTime_no {s : ByteArray} (hs : s.size ≤ 1000000) (hno : ∀ t, 0 ≤ t → t ≤ 10000000 → bytesOf s ≠ ttL t) : Ev (fun k => impl_ReadTime.f k s) (0, 6) := by
  unfold impl_ReadTime.f
  by_cases a : (s.size : Int) < 8
  · exact ev_pos a (Ev.now _)
  · refine ev_neg a ?_
    rw [w64 (n := (s.size : Int) - 7) (by omega) (by omega)]
    refine ev_pos (by omega) (ev_pos (by omega) ((impl_readDecimal_ev _ (by rw [ByteArray.size_extract]; omega)).bind ?_))
    by_cases b : (readD (bytesOf (s.extract 0 ((s.size : Int) - 7).toNat))).2 = true
    · refine ev_pos b (ev_bind0 (within_eq ..) (Ev.step (fun k => impl_ReadTime.j0.eq_2 ..) ?_))
      by_cases c : 0 ≤ (readD (bytesOf (s.extract 0 ((s.size : Int) - 7).toNat))).1 ∧ (readD (bytesOf (s.extract 0 ((s.size : Int) - 7).toNat))).1 ≤ 10000000
      · refine ev_neg (by simpa using c) ?_
        rw [w64 (n := (s.size : Int) - 7 + 1) (by omega) (by omega)]
        exact impl_ReadTime_l0_no hs (by omega) (by omega) hno 6 _ _ (by omega) (by omega)
      · exact ev_pos (by simp; omega) (Ev.now _)
    · exact ev_neg b (Ev.step (fun k => impl_ReadTime.j0.eq_2 ..) (ev_pos rfl (Ev.now _)))
theorem take_app (A B : List Int) (j : Nat) : (A ++ B).take (A.length + j) = A ++ B.take j := by rw [List.take_append, List.take_of_length_le (by omega), Nat.add_sub_cancel_left]
theorem drop_app (A B : List Int) (j : Nat) : (A ++ B).drop (A.length + j) = B.drop j := by simp [List.drop_append]
theorem bt_app {s : ByteArray} {A B : List Int} (h : bytesOf s = A ++ B) {i : Int} {j : Nat} (hi : i = (A.length : Int) + j) : bt s i = B.getD j 0 := by
  rw [bt_bo, h]
  unfold rd
  rw [hi, show ((A.length : Int) + (j : Int)).toNat = A.length + j by omega, List.getD_eq_getElem?_getD, List.getElem?_append_right (by omega), Nat.add_sub_cancel_left, ← List.getD_eq_getElem?_getD]
/-- a round of the loop over the seconds -/
theorem impl_ReadTime_round {s : ByteArray} {at_ m v i c : Int} {r : Int × Int} (h0 : 0 ≤ i) (h1 : i < s.size) (h2 : i ≠ at_ + 3) (ha : 0 ≤ at_) (ha' : at_ ≤ 1000000) (hi : i ≤ 1000000) (hb : bt s i = c) (hc : Dig c) (v0 : 0 ≤ v) (v1 : v ≤ 100000)
    (e : Ev (fun k => impl_ReadTime.l0 k s at_ m (10 * v + (c - 48)) (i + 1)) r) : Ev (fun k => impl_ReadTime.l0 k s at_ m v i) r := by
  refine Ev.step (fun k => impl_ReadTime.l0.eq_2 ..) (ev_pos h1 ?_)
  rw [hb, w64 (n := i + 1) (by omega) (by omega), w64 (n := at_ + 3) (by omega) (by omega), val_take_step hc v0 (by omega)]
  unfold Dig at hc
  exact ev_neg h2 (ev_pos h0 (ev_neg (by omega) (ev_neg (by omega) e)))
theorem ttL_cut {t : Int} {s : ByteArray} (h0 : 0 ≤ t) (h1 : t ≤ 10000000) (h : bytesOf s = ttL t) : (s.size : Int) - 7 = ((dec (t / 60000).toNat).length : Int) ∧ bytesOf (s.extract 0 ((s.size : Int) - 7).toNat) = dec (t / 60000).toNat ∧ 8 ≤ s.size ∧ s.size ≤ 10 := by
  have hl := bytesOf_length s
  have hn := ttL_len h0 h1
  have e : (ttL t).length = (dec (t / 60000).toNat).length + 7 := by unfold ttL; simp
  rw [h] at hl
  refine ⟨by omega, ?_, by omega, by omega⟩
  rw [bo_ext, h, List.drop_zero, show ((s.size : Int) - 7).toNat = (dec (t / 60000).toNat).length by omega]
  unfold ttL
  exact List.take_left' rfl
theorem impl_ReadTime_yes {s : ByteArray} {t : Int} (h0 : 0 ≤ t) (h1 : t ≤ 10000000) (h : bytesOf s = ttL t) : Ev (fun k => impl_ReadTime.f k s) (t, 0) := by
  obtain ⟨e1, e2, e3, e4⟩ := ttL_cut h0 h1 h
  have hr := impl_readDecimal_ev (s.extract 0 ((s.size : Int) - 7).toNat) (by rw [ByteArray.size_extract]; omega)
  have hd : readD (bytesOf (s.extract 0 ((s.size : Int) - 7).toNat)) = (t / 60000, true) := by
    rw [e2, ← numL_pos (show 0 ≤ t / 60000 by omega)]
    exact readD_numL (by omega) (by omega)
  rw [hd] at hr
  have hb : bytesOf s = dec (t / 60000).toNat ++ [58, 48 + t / 1000 % 60 / 10, 48 + t / 1000 % 60 % 10, 46, 48 + t % 1000 / 100, 48 + t % 1000 / 10 % 10, 48 + t % 1000 % 10] := h
  have hat : ∀ (j : Nat) (i : Int), i = (s.size : Int) - 7 + j → bt s i = [58, 48 + t / 1000 % 60 / 10, 48 + t / 1000 % 60 % 10, 46, 48 + t % 1000 / 100, 48 + t % 1000 / 10 % 10, 48 + t % 1000 % 10].getD j 0 := fun j i hi => bt_app hb (by omega)
  unfold impl_ReadTime.f
  rw [w64 (n := (s.size : Int) - 7) (by omega) (by omega)]
  refine ev_neg (by omega) (ev_pos (by omega) (ev_pos (by omega) (hr.bind (ev_pos rfl (ev_bind0 (within_eq ..) (Ev.step (fun k => impl_ReadTime.j0.eq_2 ..) (ev_neg (by simp; omega) ?_)))))))
  rw [w64 (n := (s.size : Int) - 7 + 1) (by omega) (by omega)]
  generalize hA : (s.size : Int) - 7 = A at *
  refine impl_ReadTime_round (c := 48 + t / 1000 % 60 / 10) (by omega) (by omega) (by omega) (by omega) (by omega) (by omega) (hat 1 _ (by omega)) (by unfold Dig; omega) (by omega) (by omega) ?_
  refine impl_ReadTime_round (c := 48 + t / 1000 % 60 % 10) (by omega) (by omega) (by omega) (by omega) (by omega) (by omega) (hat 2 _ (by omega)) (by unfold Dig; omega) (by omega) (by omega) ?_
  refine Ev.step (fun k => impl_ReadTime.l0.eq_2 ..) (ev_pos (by omega) (ev_pos (by rw [w64 (n := A + 3) (by omega) (by omega)]; omega) ?_))
  rw [w64 (n := A + 1 + 1 + 1 + 1) (by omega) (by omega)]
  refine impl_ReadTime_round (c := 48 + t % 1000 / 100) (by omega) (by omega) (by omega) (by omega) (by omega) (by omega) (hat 4 _ (by omega)) (by unfold Dig; omega) (by omega) (by omega) ?_
  refine impl_ReadTime_round (c := 48 + t % 1000 / 10 % 10) (by omega) (by omega) (by omega) (by omega) (by omega) (by omega) (hat 5 _ (by omega)) (by unfold Dig; omega) (by omega) (by omega) ?_
  refine impl_ReadTime_round (c := 48 + t % 1000 % 10) (by omega) (by omega) (by omega) (by omega) (by omega) (by omega) (hat 6 _ (by omega)) (by unfold Dig; omega) (by omega) (by omega) ?_
  obtain ⟨r, er, hrr⟩ := impl_timeText_ev h0 h1
  refine Ev.step (fun k => impl_ReadTime.l0.eq_2 ..) (ev_neg (by omega) ?_)
  rw [w64 (n := 60000 * (t / 60000)) (by omega) (by omega), w64 (by omega) (by omega)]
  rw [show 60000 * (t / 60000) + (10 * (10 * (10 * (10 * (10 * 0 + (48 + t / 1000 % 60 / 10 - 48)) + (48 + t / 1000 % 60 % 10 - 48)) + (48 + t % 1000 / 100 - 48)) + (48 + t % 1000 / 10 % 10 - 48)) + (48 + t % 1000 % 10 - 48)) = t by omega]
  have ei : impl_isTime.f t = some (decide (0 ≤ t ∧ t ≤ 10000000)) := by unfold impl_isTime.f; rw [within_eq]; rfl
  refine ev_bind0 ei (ev_pos (by simp; omega) (er.bind (ev_pos ?_ (Ev.now _))))
  rw [toList_eq]
  exact bo_inj (by rw [hrr, h])
theorem impl_ReadTime_ev (s : ByteArray) (hs : s.size ≤ 1000000) : ∃ r, Ev (fun k => impl_ReadTime.f k s) r ∧ ReadT (bytesOf s) r := by
  by_cases g : ∃ t, 0 ≤ t ∧ t ≤ 10000000 ∧ bytesOf s = ttL t
  · obtain ⟨t, h0, h1, h⟩ := g
    exact ⟨(t, 0), impl_ReadTime_yes h0 h1 h, .inl ⟨t, h0, h1, h, rfl⟩⟩
  · have hno : ∀ t, 0 ≤ t → t ≤ 10000000 → bytesOf s ≠ ttL t := fun t h0 h1 h => g ⟨t, h0, h1, h⟩
    exact ⟨(0, 6), impl_ReadTime_no hs hno, .inr ⟨hno, rfl⟩⟩
theorem l01IsTime_eq (t : Int) : spec_l01IsTime.f t = some (decide (0 ≤ t ∧ t ≤ 10000000)) := by unfold spec_l01IsTime.f; rw [in_eq]; rfl
theorem spec_ReadTime_j0_no {s : ByteArray} (hs : s.size ≤ 1000000) (hno : ∀ t, 0 ≤ t → t ≤ 10000000 → bytesOf s ≠ ttL t) {A : Int} (h0 : 1 ≤ A) (h1 : A + 7 = s.size) (b : Bool) : Ev (fun k => spec_ReadTime.j0 k s A b) (0, 6) := by
  refine Ev.step (fun k => spec_ReadTime.j0.eq_2 ..) ?_
  cases b with
  | true => exact ev_pos rfl (Ev.now _)
  | false =>
    have l1 : (⟨#[49]⟩ : ByteArray).size = 1 := rfl
    rw [w64 (n := A + 1) (by omega) (by omega), w64 (n := A + 3) (by omega) (by omega), w64 (n := A + 4) (by omega) (by omega)]
    refine ev_neg (by simp) (ev_pos (by omega) (ev_pos (by omega) ((spec_l01Value_ev _).bind (ev_pos (by omega) (ev_pos (by omega) (ev_pos (by omega) (ev_pos (by rw [ByteArray.size_extract]; omega) (ev_pos (by omega) (ev_pos (by omega) (ev_pos (by rw [ByteArray.size_append, ByteArray.size_extract, ByteArray.size_extract]; omega) ((spec_l01Value_ev _).bind ?_)))))))))))
    by_cases c : (valueL (bytesOf (s.extract 0 A.toNat))).2 = true
    · refine ev_pos c ?_
      by_cases d : (valueL (bytesOf ((⟨#[49]⟩ : ByteArray) ++ s.extract (A + 1).toNat (A + 3).toNat ++ s.extract (A + 4).toNat s.size))).2 = true
      · refine ev_pos d (ev_bind0 (l01IsTime_eq _) ?_)
        generalize wrap64 ((wrap64 ((wrap64 (60000 * (valueL (bytesOf (s.extract 0 A.toNat))).1)) + (valueL (bytesOf ((⟨#[49]⟩ : ByteArray) ++ s.extract (A + 1).toNat (A + 3).toNat ++ s.extract (A + 4).toNat s.size))).1)) - 100000) = t
        by_cases g : 0 ≤ t ∧ t ≤ 10000000
        · refine ev_pos (by simpa using g) ?_
          obtain ⟨r, hr, er⟩ := spec_l01Time_ev g.1 (by omega)
          refine hr.bind (ev_neg ?_ (Ev.now _))
          rw [toList_eq]
          intro h
          exact hno t g.1 g.2 (by rw [← er, h])
        · exact ev_neg (by simpa using g) (Ev.now _)
      · exact ev_neg d (Ev.now _)
    · exact ev_neg c (Ev.now _)
theorem spec_ReadTime_yes {s : ByteArray} {t : Int} (h0 : 0 ≤ t) (h1 : t ≤ 10000000) (h : bytesOf s = ttL t) : Ev (fun k => spec_ReadTime.f k s) (t, 0) := by
  obtain ⟨e1, e2, e3, e4⟩ := ttL_cut h0 h1 h
  have hb : bytesOf s = dec (t / 60000).toNat ++ [58, 48 + t / 1000 % 60 / 10, 48 + t / 1000 % 60 % 10, 46, 48 + t % 1000 / 100, 48 + t % 1000 / 10 % 10, 48 + t % 1000 % 10] := h
  have hat : ∀ (j : Nat) (i : Int), i = (s.size : Int) - 7 + j → bt s i = [58, 48 + t / 1000 % 60 / 10, 48 + t / 1000 % 60 % 10, 46, 48 + t % 1000 / 100, 48 + t % 1000 / 10 % 10, 48 + t % 1000 % 10].getD j 0 := fun j i hi => bt_app hb (by omega)
  have hv1 : valueL (bytesOf (s.extract 0 ((s.size : Int) - 7).toNat)) = (t / 60000, true) := by
    rw [e2]; exact valueL_dec (by omega) (by omega)
  have hl := bytesOf_length s
  have hx : bytesOf ((⟨#[49]⟩ : ByteArray) ++ s.extract ((s.size : Int) - 7 + 1).toNat ((s.size : Int) - 7 + 3).toNat ++ s.extract ((s.size : Int) - 7 + 4).toNat s.size) = [49, 48 + t / 1000 % 60 / 10, 48 + t / 1000 % 60 % 10, 48 + t % 1000 / 100, 48 + t % 1000 / 10 % 10, 48 + t % 1000 % 10] := by
    rw [bo_app, bo_app, bo_ext, bo_ext, List.take_of_length_le (show (bytesOf s).length ≤ s.size by omega), hb]
    have n1 : ((s.size : Int) - 7 + 3).toNat = (dec (t / 60000).toNat).length + 3 := by omega
    have n2 : ((s.size : Int) - 7 + 1).toNat = (dec (t / 60000).toNat).length + 1 := by omega
    have n3 : ((s.size : Int) - 7 + 4).toNat = (dec (t / 60000).toNat).length + 4 := by omega
    rw [n1, n2, n3, take_app, drop_app, drop_app]
    rfl
  have hv2 : valueL (bytesOf ((⟨#[49]⟩ : ByteArray) ++ s.extract ((s.size : Int) - 7 + 1).toNat ((s.size : Int) - 7 + 3).toNat ++ s.extract ((s.size : Int) - 7 + 4).toNat s.size)) = (100000 + (t - 60000 * (t / 60000)), true) := by
    rw [hx, valueL_of (by
      intro c hc
      unfold Dig
      simp only [List.mem_cons, List.not_mem_nil, or_false] at hc
      omega) (by simp) (by simp) (by simp)]
    congr 1
    show 10 * (10 * (10 * (10 * (10 * (10 * 0 + (49 - 48)) + (48 + t / 1000 % 60 / 10 - 48)) + (48 + t / 1000 % 60 % 10 - 48)) + (48 + t % 1000 / 100 - 48)) + (48 + t % 1000 / 10 % 10 - 48)) + (48 + t % 1000 % 10 - 48) = _
    omega
  have l1 : (⟨#[49]⟩ : ByteArray).size = 1 := rfl
  have w1 := spec_l01Value_ev (s.extract 0 ((s.size : Int) - 7).toNat)
  have w2 := spec_l01Value_ev ((⟨#[49]⟩ : ByteArray) ++ s.extract ((s.size : Int) - 7 + 1).toNat ((s.size : Int) - 7 + 3).toNat ++ s.extract ((s.size : Int) - 7 + 4).toNat s.size)
  rw [hv1] at w1
  rw [hv2] at w2
  have b0 := hat 0 ((s.size : Int) - 7) (by omega)
  have b3 := hat 3 ((s.size : Int) - 7 + 3) (by omega)
  unfold spec_ReadTime.f
  rw [w64 (n := (s.size : Int) - 7) (by omega) (by omega)]
  generalize hA : (s.size : Int) - 7 = A at *
  rw [w64 (n := A + 3) (by omega) (by omega)]
  have n0 : (bt s (A + 3) != 46) = false := by rw [b3]; rfl
  rw [n0]
  have hm := dec_len_le' (n := t / 60000) (k := 2) (by omega) (by omega)
  refine ev_neg (by omega) (ev_neg (by omega) (ev_pos (by omega) (ev_pos (by omega) (ev_pos b0 (ev_pos (by omega) (ev_pos (by omega) (Ev.step (fun k => spec_ReadTime.j0.eq_2 ..) ?_)))))))
  rw [w64 (n := A + 1) (by omega) (by omega), w64 (n := A + 3) (by omega) (by omega), w64 (n := A + 4) (by omega) (by omega)]
  refine ev_neg (by simp) (ev_pos (by omega) (ev_pos (by omega) (w1.bind (ev_pos (by omega) (ev_pos (by omega) (ev_pos (by omega) (ev_pos (by rw [ByteArray.size_extract]; omega) (ev_pos (by omega) (ev_pos (by omega) (ev_pos (by rw [ByteArray.size_append, ByteArray.size_extract, ByteArray.size_extract]; omega) (w2.bind (ev_pos rfl (ev_pos rfl ?_)))))))))))))
  rw [w64 (n := 60000 * (t / 60000)) (by omega) (by omega), w64 (n := 60000 * (t / 60000) + (100000 + (t - 60000 * (t / 60000)))) (by omega) (by omega), w64 (by omega) (by omega), show 60000 * (t / 60000) + (100000 + (t - 60000 * (t / 60000))) - 100000 = t by omega]
  obtain ⟨r, er, hrr⟩ := spec_l01Time_ev h0 (by omega)
  refine ev_bind0 (l01IsTime_eq t) (ev_pos (by simp; omega) (er.bind (ev_pos ?_ (Ev.now _))))
  rw [toList_eq]
  exact bo_inj (by rw [hrr, h])
theorem spec_ReadTime_no {s : ByteArray} (hs : s.size ≤ 1000000) (hno : ∀ t, 0 ≤ t → t ≤ 10000000 → bytesOf s ≠ ttL t) : Ev (fun k => spec_ReadTime.f k s) (0, 6) := by
  unfold spec_ReadTime.f
  rw [w64 (n := (s.size : Int) - 7) (by omega) (by omega)]
  by_cases a : (s.size : Int) - 7 < 1
  · exact ev_pos a (Ev.step (fun k => spec_ReadTime.j0.eq_2 ..) (ev_pos rfl (Ev.now _)))
  refine ev_neg a ?_
  by_cases b : (s.size : Int) - 7 > 3
  · exact ev_pos b (Ev.step (fun k => spec_ReadTime.j0.eq_2 ..) (ev_pos rfl (Ev.now _)))
  refine ev_neg b (ev_pos (by omega) (ev_pos (by omega) ?_))
  rw [w64 (n := (s.size : Int) - 7 + 3) (by omega) (by omega)]
  by_cases c : bt s ((s.size : Int) - 7) = 58
  · exact ev_pos c (ev_pos (by omega) (ev_pos (by omega) (spec_ReadTime_j0_no hs hno (by omega) (by omega) _)))
  · exact ev_neg c (spec_ReadTime_j0_no hs hno (by omega) (by omega) _)
theorem spec_ReadTime_ev (s : ByteArray) (hs : s.size ≤ 1000000) : ∃ r, Ev (fun k => spec_ReadTime.f k s) r ∧ ReadT (bytesOf s) r := by
  by_cases g : ∃ t, 0 ≤ t ∧ t ≤ 10000000 ∧ bytesOf s = ttL t
  · obtain ⟨t, h0, h1, h⟩ := g
    exact ⟨(t, 0), spec_ReadTime_yes h0 h1 h, .inl ⟨t, h0, h1, h, rfl⟩⟩
  · have hno : ∀ t, 0 ≤ t → t ≤ 10000000 → bytesOf s ≠ ttL t := fun t h0 h1 h => g ⟨t, h0, h1, h⟩
    exact ⟨(0, 6), spec_ReadTime_no hs hno, .inr ⟨hno, rfl⟩⟩
theorem ReadTime_both (s : ByteArray) (hs : s.size ≤ 1000000) : ∃ r, Ev (fun k => impl_ReadTime.f k s) r ∧ Ev (fun k => spec_ReadTime.f k s) r ∧ ReadT (bytesOf s) r := by
  obtain ⟨a, ha, ha'⟩ := impl_ReadTime_ev s hs
  obtain ⟨b, hb, hb'⟩ := spec_ReadTime_ev s hs
  obtain rfl := readT_uniq ha' hb'
  exact ⟨a, ha, hb, ha'⟩

theorem DrawTimeText_ev {c : List Int} (hc : Code c) : ∃ x, Ev (fun k => spec_DrawTimeText.f k c) x := by
  obtain ⟨s, e, h⟩ := l01From_ev hc
  obtain ⟨x0, a0, s0, e0, h0, _⟩ := l01Next_some h (n := 16) (by omega)
  by_cases g : x0 = 0
  · obtain ⟨x1, a1, s1, e1, h1, _⟩ := l01Pick_some h0 (l := [0, 10000000, 10000001, (-1)]) (by simp) (by simp)
    refine ⟨x1, e.bind (ev_bind0 (b := (x1, a1, s1)) ?_ (Ev.now _))⟩
    unfold spec_l01DrawTime.f
    rw [e0, Option.bind_some, if_pos g, e1]; rfl
  · obtain ⟨x1, a1, s1, e1, h1, _⟩ := l01Next_some h0 (n := 1000000) (by omega)
    obtain ⟨x2, a2, s2, e2, h2, _⟩ := l01Next_some h1 (n := 60000) (by omega)
    obtain ⟨x3, a3, s3, e3, h3, _⟩ := l01Next_some h2 (n := 10000001) (by omega)
    obtain ⟨x4, a4, s4, e4, h4, _⟩ := l01Pick_some h3 (l := [x1, x2, x3]) (by simp) (by simp)
    refine ⟨x4, e.bind (ev_bind0 (b := (x4, a4, s4)) ?_ (Ev.now _))⟩
    unfold spec_l01DrawTime.f
    simp only [e0, e1, e2, e3, e4, Option.bind_some]
    rw [if_neg g]
theorem DrawReadTime_ev {c : List Int} (hc : Code c) : ∃ t, Ev (fun k => spec_DrawReadTime.f k c) t ∧ t.size ≤ 1000000 := by
  obtain ⟨s, e, h⟩ := l01From_ev hc
  obtain ⟨x1, a1, s1, e1, h1, b1, c1, _⟩ := l01Next_some h (n := 1000000) (by omega)
  obtain ⟨x2, a2, s2, e2, h2, b2, c2, _⟩ := l01Next_some h1 (n := 60000) (by omega)
  obtain ⟨x3, a3, s3, e3, h3, b3⟩ := l01Pick_some h2 (l := [x1, 0, 10000000, 10000001, x2]) (by simp) (by simp)
  simp only [List.mem_cons, List.not_mem_nil, or_false] at b3
  obtain ⟨t, ht, et⟩ := spec_l01Time_ev (t := x3) (by omega) (by omega)
  have hl : t.size ≤ 20 := by
    have hd := dec_len_le' (n := x3 / 60000) (k := 3) (by omega) (by omega)
    rw [sz_bo et]
    unfold ttL
    simp only [List.length_append, List.length_cons, List.length_nil]
    omega
  obtain ⟨x4, a4, s4, e4, h4, _⟩ := l01Next_some h3 (n := 3) (by omega)
  by_cases g : x4 = 0
  · obtain ⟨r, a5, s5, e5, h5, hr⟩ := l01Damage_some h4 (t := t) (by omega)
    exact ⟨r, e.bind (ev_bind0 e1 (ev_bind0 e2 (ev_bind0 e3 (ht.bind (ev_bind0 e4 (ev_pos g (ev_bind0 e5 (Ev.now _)))))))), by omega⟩
  · exact ⟨t, e.bind (ev_bind0 e1 (ev_bind0 e2 (ev_bind0 e3 (ht.bind (ev_bind0 e4 (ev_neg g (Ev.now _))))))), by omega⟩
theorem main : laws_FnTimes.Pure := by
  intro c _ _ hw
  apply Ev.rounds
  unfold laws_FnTimes.f
  by_cases g : (c.length : Int) > 4096
  · exact ev_bind0 (big_true g) (ev_pos rfl (Ev.now _))
  refine ev_bind0 (big_false g) (ev_neg (by decide) ?_)
  have hc := code_of hw g
  obtain ⟨x, ex⟩ := DrawTimeText_ev hc
  obtain ⟨s, es, hs⟩ := DrawReadTime_ev hc
  obtain ⟨t, bad, a, b, hb⟩ := TimeText_both x
  obtain ⟨⟨y, one⟩, p, q, hq⟩ := ReadTime_both s hs
  refine ex.bind (a.bind (b.bind (es.bind (p.bind (q.bind (ev_pos rfl (ev_pos rfl (ev_pos rfl ?_))))))))
  refine Ev.step (fun k => laws_FnTimes.j0.eq_2 ..) (ev_neg (by simp) ?_)
  -- the time, read back
  have back : Ev (fun k => if bad = 0 then ((impl_ReadTime.f k t).bind fun bt230 => (if bt230.2 = 0 then (some (bt230.1 == x)) else (some false))) else (some true)) true := by
    rcases hb with ⟨rfl, x0, x1, et⟩ | ⟨rfl, _⟩
    · refine ev_pos rfl ((impl_ReadTime_yes x0 x1 et).bind (ev_pos rfl (ev_ret (by simp))))
    · exact ev_neg (by decide) (Ev.now _)
  rcases hq with ⟨u, u0, u1, hu, hr⟩ | ⟨_, hr⟩
  · obtain ⟨rfl, rfl⟩ := Prod.mk.inj hr
    refine ev_pos rfl ?_
    obtain ⟨r, er, hrr⟩ := impl_TimeText_in u0 u1
    have e : r.toList = s.toList := toList_eq.2 (bo_inj (by rw [hrr, hu]))
    refine er.bind (ev_pos rfl (Ev.step (fun k => laws_FnTimes.j1.eq_2 ..) (ev_neg (by simp [e]) back)))
  · obtain ⟨rfl, rfl⟩ := Prod.mk.inj hr
    exact ev_neg (by decide) back

end Go.Proofs.Ytgcjjpaljfgiaaa.PureFnTimes
namespace Go.Proofs.Ytgcjjpaljfgiaaa.Pure
theorem FnTimes : QFnTimes.laws_FnTimes.Pure := PureFnTimes.main
end Go.Proofs.Ytgcjjpaljfgiaaa.Pure
