/- ListText answers what the reference's answers, for all arguments; no condition. -/
import Derived.Test.YtgcjjpaljfgiaaaMa
import Derived.Test.YtgcjjpaljfgiaaaQFnExactListTextx
import Derived.Test.YtgcjjpaljfgiaaaHandFnExactListText
namespace Go.Proofs.Ytgcjjpaljfgiaaa.GoFnExactListText
open Go.RowKit Go.Proofs.Ytgcjjpaljfgiaaa.QFnExactListText Go.Proofs.YtgcjjpaljfgiaaaW.PrintWords Go.Proofs.YtgcjjpaljfgiaaaW.PrintLast Go.Proofs.Ytgcjjpaljfgiaaa.Ma Go.Proofs.Ytgcjjpaljfgiaaa.HandFnExactListText
set_option linter.unusedVariables false
set_option linter.unusedSimpArgs false

/-! ### division, ranges -/
theorem in_eq (a b c : Int) : spec_l01In.f a b c = some (decide (b ≤ a ∧ a ≤ c)) := by
  unfold spec_l01In.f
  by_cases h : b ≤ a <;> simp [h]
theorem within_eq (a b c : Int) : impl_within.f a b c = some (decide (b ≤ a ∧ a ≤ c)) := by
  unfold impl_within.f
  by_cases h : b ≤ a <;> simp [h]
theorem tdiv_floor {a b : Int} (hb : 0 < b) : (Int.tmod a b < 0 → Int.tdiv a b - 1 = a / b) ∧ (¬ Int.tmod a b < 0 → Int.tdiv a b = a / b) := by
  have h1 := Int.tdiv_eq_ediv (a := a) (b := b)
  have h2 := Int.tmod_eq_emod (a := a) (b := b)
  have h3 := Int.emod_nonneg a (show b ≠ 0 by omega)
  have h4 := Int.emod_lt_of_pos a hb
  by_cases h : 0 ≤ a ∨ b ∣ a
  · rw [if_pos h] at h1 h2
    omega
  · rw [if_neg h] at h1 h2
    rw [Int.sign_eq_one_of_pos hb] at h1
    omega
theorem ediv_small {a b : Int} (hb : 0 < b) (h : -4611686018427387904 ≤ a) (h' : a ≤ 4611686018427387904) : -4611686018427387904 ≤ a / b ∧ a / b ≤ 4611686018427387904 := by
  have h1 : -4611686018427387904 * b ≤ a := by
    have := Int.mul_le_mul_of_nonneg_left (show 1 ≤ b by omega) (show (0 : Int) ≤ 4611686018427387904 by omega); omega
  have h2 : a < (4611686018427387904 + 1) * b := by
    have := Int.mul_le_mul_of_nonneg_left (show 1 ≤ b by omega) (show (0 : Int) ≤ 4611686018427387905 by omega); omega
  have h3 := (Int.le_ediv_iff_mul_le hb).2 h1
  have h4 := (Int.ediv_lt_iff_lt_mul hb).2 h2
  omega
/-! ### words joined by commas -/
def jr : List (List Int) → List Int
  | [] => []
  | w :: ws => 44 :: (w ++ jr ws)
theorem joi_jr : ∀ (w : List Int) (ws : List (List Int)), joi 44 (w :: ws) = w ++ jr ws
  | w, [] => by simp [joi, jr]
  | w, v :: ws => by rw [joi_cons 44 w (by simp), joi_jr v ws]; rfl
def joP (i : Nat) (ws : List (List Int)) : List Int := if i = 0 then joi 44 ws else jr ws
theorem joP_nil (i : Nat) : joP i [] = [] := by unfold joP; split <;> rfl
theorem joP_zero (w : List Int) (ws : List (List Int)) : joP 0 (w :: ws) = w ++ joP 1 ws := by
  unfold joP; rw [if_pos rfl, if_neg (by omega), joi_jr]
theorem joP_succ (i : Nat) (w : List Int) (ws : List (List Int)) : joP (i + 1) (w :: ws) = 44 :: (w ++ joP (i + 2) ws) := by
  unfold joP; rw [if_neg (by omega), if_neg (by omega)]; rfl
theorem bo_comma : bytesOf (⟨#[44]⟩ : ByteArray) = [44] := rfl
theorem sz_comma : (⟨#[44]⟩ : ByteArray).size = 1 := rfl
theorem impl_joinWith_l0 (ws : List ByteArray) (hl : ws.length ≤ 1000000) (hz : ∀ w ∈ ws, w.size ≤ 1000000) : ∀ (R : List ByteArray) (i : Nat) (A : ByteArray), ws.drop i = R → A.size ≤ i * 2000000 →
    ∃ r, Ev (fun k => impl_joinWith.l0 k ⟨#[44]⟩ A ws (ws.length : Int) i) r ∧ bytesOf r = bytesOf A ++ joP i (R.map bytesOf) := by
  intro R
  induction R with
  | nil =>
    intro i A h hA
    have := drop_nil h
    exact ⟨A, Ev.step (fun k => impl_joinWith.l0.eq_2 ..) (ev_neg (by omega) (Ev.now _)), by simp [joP_nil]⟩
  | cons w R ih =>
    intro i A h hA
    obtain ⟨h1, h2, h3⟩ := rdOf_drop (d := ByteArray.empty) h
    have hw : w ∈ ws := by
      have : w ∈ ws.drop i := by rw [h]; simp
      exact List.mem_of_mem_drop this
    have hws := hz w hw
    cases i with
    | zero =>
      obtain ⟨r, er, hr⟩ := ih 1 (A ++ w) h3 (by rw [ByteArray.size_append]; omega)
      refine ⟨r, Ev.step (fun k => impl_joinWith.l0.eq_2 ..) (ev_pos (by omega) (ev_pos (by omega) (ev_pos (by omega) (ev_neg (by omega) ?_)))), ?_⟩
      · rw [h2, w64 (by omega) (by omega)]
        exact ev_pos (by omega) er
      · rw [hr, bo_app, List.map_cons, joP_zero, List.append_assoc]
    | succ i =>
      obtain ⟨r, er, hr⟩ := ih (i + 2) ((A ++ ⟨#[44]⟩) ++ w) h3 (by rw [ByteArray.size_append, ByteArray.size_append, sz_comma]; omega)
      refine ⟨r, Ev.step (fun k => impl_joinWith.l0.eq_2 ..) (ev_pos (by omega) (ev_pos (by omega) (ev_pos (by omega) (ev_pos (by omega) ?_)))), ?_⟩
      · rw [h2, w64 (n := ((i + 1 : Nat) : Int) + 1) (by omega) (by omega)]
        exact ev_pos (by rw [sz_comma]; omega) (ev_pos (by rw [ByteArray.size_append, sz_comma]; omega) er)
      · rw [hr, bo_app, bo_app, bo_comma, List.map_cons, joP_succ, List.append_assoc, List.append_assoc, List.singleton_append]
theorem impl_joinWith_ev (ws : List ByteArray) (hl : ws.length ≤ 1000000) (hz : ∀ w ∈ ws, w.size ≤ 1000000) : ∃ r, Ev (fun k => impl_joinWith.f k ws ⟨#[44]⟩) r ∧ bytesOf r = joi 44 (ws.map bytesOf) := by
  obtain ⟨r, er, hr⟩ := impl_joinWith_l0 ws hl hz ws 0 ⟨#[]⟩ rfl (by have : (⟨#[]⟩ : ByteArray).size = 0 := rfl; omega)
  exact ⟨r, er, by rw [hr, bo_nil]; rfl⟩
/-! ### numbers in decimal -/
def numL (n : Int) : List Int := if n < 0 then 45 :: dec (-n).toNat else dec n.toNat
theorem numL_pos {n : Int} (h : 0 ≤ n) : numL n = dec n.toNat := by unfold numL; rw [if_neg (by omega)]
theorem numL_neg {n : Int} (h : n < 0) : numL n = 45 :: dec (-n).toNat := by unfold numL; rw [if_pos h]
theorem sz_bo {s : ByteArray} {l : List Int} (h : bytesOf s = l) : s.size = l.length := by rw [← h, bytesOf_length]
theorem byte_dig {c : Int} (h : Dig c) : byte c := by unfold Dig at h; unfold byte; omega
theorem bo_one {c : Int} (h : byte c) : bytesOf (strOfNums [c]) = [c] := bo_of _ (fun x hx => by simp only [List.mem_singleton] at hx; subst hx; exact h)
theorem bo_lit (l : List UInt8) : bytesOf ⟨l.toArray⟩ = l.map fun b => (b.toNat : Int) := rfl
theorem pow_int (k : Nat) : ((10 ^ k : Nat) : Int) = (10 : Int) ^ k := by simp
theorem dec_len_le' {n : Int} {k : Nat} (h0 : 0 ≤ n) (h : n < 10 ^ (k + 1)) : (dec n.toNat).length ≤ k + 1 := by
  refine dec_len_le k n.toNat ?_
  have := pow_int (k + 1)
  omega
/-- the byte of the last digit -/
theorem dig_byte {n : Int} (h : 0 ≤ n) : (wrap64 (48 + (Int.tmod n 10))) % 256 = 48 + n % 10 := by
  rw [Int.tmod_eq_emod_of_nonneg h, w64 (by omega) (by omega)]; omega
theorem impl_decimal_l0 : ∀ (d : Nat) (n : Int) (x : ByteArray), 0 ≤ n → n < 10 ^ (d + 1) → n ≤ 9223372036854775807 → x.size + d ≤ 4611686018427387904 → ∃ r, Ev (fun k => impl_decimal.l0 k n x) r ∧ bytesOf r = dec n.toNat ++ bytesOf x := by
  intro d
  induction d with
  | zero =>
    intro n x h0 h1 h2 h3
    have hb : bytesOf (strOfNums [48 + n % 10]) = [48 + n % 10] := bo_one (by unfold byte; omega)
    have hs := sz_bo hb
    refine ⟨strOfNums [48 + n % 10] ++ x, Ev.step (fun k => impl_decimal.l0.eq_2 ..) (ev_bind0 rfl ?_), ?_⟩
    · rw [dig_byte h0, Int.tdiv_eq_ediv_of_nonneg h0, w64 (by omega) (by omega)]
      simp only [List.length_singleton] at hs
      exact ev_pos (by omega) (ev_pos (by omega) (Ev.now _))
    · rw [bo_app, hb, dec_small (by omega)]
      congr 2; omega
  | succ d ih =>
    intro n x h0 h1 h2 h3
    have hb : bytesOf (strOfNums [48 + n % 10]) = [48 + n % 10] := bo_one (by unfold byte; omega)
    have hs := sz_bo hb
    simp only [List.length_singleton] at hs
    by_cases g : n / 10 = 0
    · refine ⟨strOfNums [48 + n % 10] ++ x, Ev.step (fun k => impl_decimal.l0.eq_2 ..) (ev_bind0 rfl ?_), ?_⟩
      · rw [dig_byte h0, Int.tdiv_eq_ediv_of_nonneg h0, w64 (by omega) (by omega)]
        exact ev_pos (by omega) (ev_pos g (Ev.now _))
      · rw [bo_app, hb, dec_small (by omega)]
        congr 2; omega
    · obtain ⟨r, hr, e⟩ := ih (n / 10) (strOfNums [48 + n % 10] ++ x) (by omega) (by rw [Int.pow_succ] at h1; omega) (by omega) (by rw [ByteArray.size_append]; omega)
      refine ⟨r, Ev.step (fun k => impl_decimal.l0.eq_2 ..) (ev_bind0 rfl ?_), ?_⟩
      · rw [dig_byte h0, Int.tdiv_eq_ediv_of_nonneg h0, w64 (by omega) (by omega)]
        exact ev_pos (by omega) (ev_neg g hr)
      · rw [e, bo_app, hb, dec_big (n := n.toNat) (by omega), show n.toNat / 10 = (n / 10).toNat by omega, show ((n.toNat % 10 : Nat) : Int) = n % 10 by omega]
        simp
theorem impl_decimal_nn {n : Int} (h0 : 0 ≤ n) (h1 : n ≤ 1000000000000000000) : ∃ r, Ev (fun k => impl_decimal.f k n) r ∧ bytesOf r = dec n.toNat := by
  obtain ⟨r, hr, e⟩ := impl_decimal_l0 18 n ⟨#[]⟩ h0 (by omega) (by omega) (by decide)
  refine ⟨r, Ev.step (fun k => impl_decimal.f.eq_2 ..) (ev_neg (by omega) hr), ?_⟩
  rw [e, bo_nil]; simp
theorem impl_decimal_ev {n : Int} (h0 : -1000000000000000000 ≤ n) (h1 : n ≤ 1000000000000000000) : ∃ r, Ev (fun k => impl_decimal.f k n) r ∧ bytesOf r = numL n := by
  by_cases g : n < 0
  · obtain ⟨r, hr, e⟩ := impl_decimal_nn (n := -n) (by omega) (by omega)
    have hl := dec_len_le' (n := -n) (k := 18) (by omega) (by omega)
    have hs := sz_bo e
    refine ⟨(⟨#[45]⟩ : ByteArray) ++ r, Ev.step (fun k => impl_decimal.f.eq_2 ..) (ev_pos g ?_), ?_⟩
    · rw [w64 (by omega) (by omega)]
      exact hr.bind (ev_pos (by omega) (Ev.now _))
    · rw [bo_app, e, numL_neg g]; rfl
  · obtain ⟨r, hr, e⟩ := impl_decimal_nn (n := n) (by omega) h1
    exact ⟨r, hr, by rw [e, numL_pos (by omega)]⟩
theorem spec_l01Dec_d : ∀ (d : Nat) (n : Int), 0 ≤ n → n < 10 ^ (d + 1) → n ≤ 9223372036854775807 → d ≤ 1000 → ∃ r, Ev (fun k => spec_l01Dec.f k n) r ∧ bytesOf r = dec n.toNat := by
  intro d
  induction d with
  | zero =>
    intro n h0 h1 h2 _
    have hb : bytesOf (strOfNums [48 + n]) = [48 + n] := bo_one (by unfold byte; omega)
    refine ⟨strOfNums [48 + n], Ev.step (fun k => spec_l01Dec.f.eq_2 ..) (ev_pos (by omega) (ev_ret ?_)), ?_⟩
    · rw [w64 (by omega) (by omega), show (48 + n) % 256 = 48 + n by omega]
    · rw [hb, dec_small (by omega)]
      congr 2; omega
  | succ d ih =>
    intro n h0 h1 h2 hd
    by_cases g : n < 10
    · have hb : bytesOf (strOfNums [48 + n]) = [48 + n] := bo_one (by unfold byte; omega)
      refine ⟨strOfNums [48 + n], Ev.step (fun k => spec_l01Dec.f.eq_2 ..) (ev_pos g (ev_ret ?_)), ?_⟩
      · rw [w64 (by omega) (by omega), show (48 + n) % 256 = 48 + n by omega]
      · rw [hb, dec_small (by omega)]
        congr 2; omega
    · have hb : bytesOf (strOfNums [48 + n % 10]) = [48 + n % 10] := bo_one (by unfold byte; omega)
      have hs := sz_bo hb
      simp only [List.length_singleton] at hs
      obtain ⟨r, hr, e⟩ := ih (n / 10) (by omega) (by rw [Int.pow_succ] at h1; omega) (by omega) (by omega)
      have hl := dec_len_le' (n := n / 10) (k := d) (by omega) (by rw [Int.pow_succ] at h1; omega)
      have hsr := sz_bo e
      refine ⟨r ++ strOfNums [48 + n % 10], Ev.step (fun k => spec_l01Dec.f.eq_2 ..) (ev_neg g ?_), ?_⟩
      · rw [dig_byte h0, Int.tdiv_eq_ediv_of_nonneg h0, w64 (by omega) (by omega)]
        exact hr.bind (ev_bind0 rfl (ev_pos (by omega) (Ev.now _)))
      · rw [bo_app, e, hb, dec_big (n := n.toNat) (by omega), show n.toNat / 10 = (n / 10).toNat by omega, show ((n.toNat % 10 : Nat) : Int) = n % 10 by omega]
theorem spec_l01Dec_ev {n : Int} (h0 : 0 ≤ n) (h1 : n ≤ 1000000000000000000) : ∃ r, Ev (fun k => spec_l01Dec.f k n) r ∧ bytesOf r = dec n.toNat := spec_l01Dec_d 18 n h0 (by omega) (by omega) (by omega)
theorem spec_l01Number_ev {n : Int} (h0 : -1000000000000000000 ≤ n) (h1 : n ≤ 1000000000000000000) : ∃ r, Ev (fun k => spec_l01Number.f k n) r ∧ bytesOf r = numL n := by
  unfold spec_l01Number.f
  by_cases g : n < 0
  · obtain ⟨r, hr, e⟩ := spec_l01Dec_ev (n := -n) (by omega) (by omega)
    have hl := dec_len_le' (n := -n) (k := 18) (by omega) (by omega)
    have hs := sz_bo e
    refine ⟨(⟨#[45]⟩ : ByteArray) ++ r, ev_pos g ?_, ?_⟩
    · rw [w64 (by omega) (by omega)]
      exact hr.bind (ev_pos (by omega) (Ev.now _))
    · rw [bo_app, e, numL_neg g]; rfl
  · obtain ⟨r, hr, e⟩ := spec_l01Dec_ev (n := n) (by omega) h1
    exact ⟨r, ev_neg g (hr.bind (Ev.now _)), by rw [e, numL_pos (by omega)]⟩
theorem numL_len {n : Int} (h0 : -1000000000000000000 ≤ n) (h1 : n ≤ 1000000000000000000) : (numL n).length ≤ 20 := by
  by_cases g : n < 0
  · rw [numL_neg g]
    have hl := dec_len_le' (n := -n) (k := 18) (by omega) (by omega)
    simp; omega
  · rw [numL_pos (by omega)]
    have hl := dec_len_le' (n := n) (k := 18) (by omega) (by omega)
    omega

/-! ### numbers, read -/
theorem val_take_step {v c : Int} (h : Dig c) (h0 : 0 ≤ v) (h1 : v ≤ 100000000000000000) : wrap64 ((wrap64 (10 * v)) + ((c - 48) % 256)) = 10 * v + (c - 48) := by
  unfold Dig at h
  rw [w64 (n := 10 * v) (by omega) (by omega), show (c - 48) % 256 = c - 48 by omega, w64 (by omega) (by omega)]
def foldV (v : Int) (l : List Int) : Int := l.foldl (fun a c => 10 * a + (c - 48)) v
theorem foldV_cons (v c : Int) (l : List Int) : foldV v (c :: l) = foldV (10 * v + (c - 48)) l := rfl
theorem foldV_zero (l : List Int) : foldV 0 l = val l := rfl
instance (c : Int) : Decidable (Dig c) := by unfold Dig; infer_instance
def allDig (l : List Int) : Bool := l.all fun c => decide (Dig c)
theorem allDig_iff {l : List Int} : allDig l = true ↔ ∀ c ∈ l, Dig c := by unfold allDig; simp
theorem allDig_cons {c : Int} {l : List Int} : allDig (c :: l) = (decide (Dig c) && allDig l) := rfl
theorem dig_lo {c : Int} (h : c < 48) : ¬ Dig c := by unfold Dig; omega
theorem dig_hi {c : Int} (h : c > 57) : ¬ Dig c := by unfold Dig; omega
theorem dig_in {c : Int} (h : ¬ c < 48) (h' : ¬ c > 57) : Dig c := by unfold Dig; omega
/-- what readDecimal answers -/
def readD1 (D l : List Int) : Int × Bool :=
  if D.length = 0 ∨ D.length > 18 ∨ (D.head? = some 48 ∧ (D.length > 1 ∨ l.length > 1)) then (0, false)
  else if allDig D = true then ((if D.length < l.length then -(val D) else val D), true) else (0, false)
def readD (l : List Int) : Int × Bool := if l.head? = some 45 then readD1 l.tail l else readD1 l l
theorem bt_head {s : ByteArray} (h : 0 < s.size) : (bytesOf s).head? = some (bt s 0) := by
  have hl := bytesOf_length s
  cases hb : bytesOf s with
  | nil => rw [hb] at hl; simp at hl; omega
  | cons c R =>
    obtain ⟨_, h2, _⟩ := bt_drop (i := 0) (R := R) (c := c) (s := s) (by rw [hb]; rfl)
    simp only [List.head?_cons, Option.some.injEq]
    exact h2.symm
/-- It reads just what was written. -/
theorem dec_allDig (n : Nat) : allDig (dec n) = true := allDig_iff.2 (dec_dig n)
theorem dec_head45 (n : Nat) : (dec n).head? ≠ some 45 := by
  intro h
  have : (45 : Int) ∈ dec n := List.mem_of_mem_head? h
  have := dec_dig n 45 this
  unfold Dig at this; omega
theorem dec_head48 {n : Nat} (h : (dec n).head? = some 48) : n = 0 := by
  rcases Nat.eq_zero_or_pos n with g | g
  · exact g
  · exact absurd rfl (dec_head n g 48 h)
theorem readD_numL {n : Int} (h0 : -1000000000000000000 < n) (h1 : n < 1000000000000000000) : readD (numL n) = (n, true) := by
  unfold readD
  by_cases g : n < 0
  · rw [numL_neg g]
    have hl := dec_len_le' (n := -n) (k := 17) (by omega) (by omega)
    have hp := dec_len_pos (-n).toNat
    rw [if_pos (by rfl), List.tail_cons]
    unfold readD1
    rw [if_neg (by
      rintro (h | h | ⟨h, _⟩)
      · omega
      · omega
      · have := dec_head48 h; omega), if_pos (dec_allDig _), if_pos (by simp), val_dec]
    congr 1; omega
  · rw [numL_pos (by omega)]
    have hl := dec_len_le' (n := n) (k := 17) (by omega) (by omega)
    have hp := dec_len_pos n.toNat
    rw [if_neg (dec_head45 _)]
    unfold readD1
    rw [if_neg (by
      rintro (h | h | ⟨h, h'⟩)
      · omega
      · omega
      · have e := dec_head48 h
        have : (dec n.toNat).length = 1 := by rw [e, dec_small (by omega)]; rfl
        omega), if_pos (dec_allDig _), if_neg (by omega), val_dec]
    congr 1; omega
theorem readD_inv {l : List Int} {n : Int} (h : readD l = (n, true)) : l = numL n ∧ -1000000000000000000 < n ∧ n < 1000000000000000000 := by
  unfold readD at h
  by_cases g : l.head? = some 45
  · rw [if_pos g] at h
    obtain ⟨D, rfl⟩ : ∃ D, l = 45 :: D := by
      cases l with
      | nil => simp at g
      | cons c D => simp only [List.head?_cons, Option.some.injEq] at g; subst g; exact ⟨D, rfl⟩
    simp only [List.tail_cons] at h
    unfold readD1 at h
    split at h
    · simp at h
    · rename_i h1
      split at h
      · rename_i h2
        have hD : D ≠ [] := by intro e; subst e; simp at h1
        have hd := allDig_iff.1 h2
        have h48 : D.head? ≠ some 48 := fun e => h1 (.inr (.inr ⟨e, .inr (by
          have : 1 ≤ D.length := by cases D with | nil => exact absurd rfl hD | cons => simp
          simp; omega)⟩))
        have hv := dec_val D hd hD (fun e => absurd e h48)
        have hlt := val_lt D hd
        have hpos : 1 ≤ val D := by
          rcases Int.lt_or_le (val D) 1 with q | q
          · have e0 : val D = 0 := by omega
            have := hv.1
            rw [e0] at this
            rw [← this] at h48
            exact absurd (by rw [Int.toNat_zero, dec_small (by omega)]; rfl) h48
          · exact q
        rw [if_pos (by simp)] at h
        have e : -(val D) = n := (Prod.mk.inj h).1
        have hp : (10 : Int) ^ D.length ≤ 10 ^ 18 := by
          have h18 : D.length ≤ 18 := by
            rcases Nat.lt_or_ge 18 D.length with q | q
            · exact absurd (.inr (.inl q)) h1
            · exact q
          have := Nat.pow_le_pow_right (show 0 < 10 by omega) h18
          have e1 := pow_int D.length
          have e2 := pow_int 18
          omega
        refine ⟨?_, by omega, by omega⟩
        rw [numL_neg (by omega), show -n = val D by omega, hv.1]
      · simp at h
  · rw [if_neg g] at h
    unfold readD1 at h
    split at h
    · simp at h
    · rename_i h1
      split at h
      · rename_i h2
        have hD : l ≠ [] := by intro e; subst e; simp at h1
        have hd := allDig_iff.1 h2
        have hv := dec_val l hd hD (fun e => by
          rcases Nat.lt_or_ge 1 l.length with q | q
          · exact absurd (.inr (.inr ⟨e, .inl q⟩)) h1
          · have : 1 ≤ l.length := by cases l with | nil => exact absurd rfl hD | cons => simp
            omega)
        have hlt := val_lt l hd
        rw [if_neg (by omega)] at h
        have e : val l = n := (Prod.mk.inj h).1
        have hp : (10 : Int) ^ l.length ≤ 10 ^ 18 := by
          have h18 : l.length ≤ 18 := by
            rcases Nat.lt_or_ge 18 l.length with q | q
            · exact absurd (.inr (.inl q)) h1
            · exact q
          have := Nat.pow_le_pow_right (show 0 < 10 by omega) h18
          have e1 := pow_int l.length
          have e2 := pow_int 18
          omega
        refine ⟨?_, by omega, by omega⟩
        rw [numL_pos (by omega), ← e, hv.1]
      · simp at h
theorem readD1_not {D l : List Int} (h : (readD1 D l).2 = false) : readD1 D l = (0, false) := by
  unfold readD1 at h ⊢
  split
  · rfl
  · rename_i h1
    rw [if_neg h1] at h
    split
    · rename_i h2
      rw [if_pos h2] at h; simp at h
    · rfl
theorem readD_not {l : List Int} (h : (readD l).2 = false) : readD l = (0, false) := by
  unfold readD at h ⊢
  split
  · rename_i h1
    rw [if_pos h1] at h
    exact readD1_not h
  · rename_i h1
    rw [if_neg h1] at h
    exact readD1_not h

def valueL (l : List Int) : Int × Bool := if l.length < 1 ∨ l.length > 13 then (0, false) else if allDig l = true then (val l, decide (dec (val l).toNat = l)) else (0, false)
def signedL (l : List Int) : Int × Bool := if l.head? = some 45 then (-(valueL l.tail).1, (valueL l.tail).2 && decide ((valueL l.tail).1 > 0)) else valueL l
theorem foldV_val : ∀ (l : List Int) (v : Int), foldV v l = v * 10 ^ l.length + val l
  | [], v => by simp [foldV, val]
  | c :: l, v => by
    rw [foldV_cons, foldV_val l, ← foldV_zero (c :: l), foldV_cons, foldV_val l, List.length_cons, Int.pow_succ]
    grind
theorem valueL_bound (l : List Int) : 0 ≤ (valueL l).1 ∧ (valueL l).1 < 10000000000000 := by
  unfold valueL
  split
  · simp
  · rename_i h
    split
    · rename_i h2
      have := val_lt l (allDig_iff.1 h2)
      have hp : (10 : Int) ^ l.length ≤ 10 ^ 13 := by
        have := Nat.pow_le_pow_right (show 0 < 10 by omega) (show l.length ≤ 13 by omega)
        have e1 := pow_int l.length
        have e2 := pow_int 13
        omega
      exact ⟨this.1, by show val l < _; omega⟩
    · simp
theorem valueL_dec {n : Int} (h0 : 0 ≤ n) (h1 : n < 10000000000000) : valueL (dec n.toNat) = (n, true) := by
  have hl := dec_len_le' (n := n) (k := 12) h0 (by omega)
  have hp := dec_len_pos n.toNat
  unfold valueL
  rw [if_neg (by omega), if_pos (dec_allDig _), val_dec, show ((n.toNat : Nat) : Int) = n by omega]
  simp
theorem valueL_inv {l : List Int} {n : Int} (h : valueL l = (n, true)) : l = dec n.toNat ∧ 0 ≤ n ∧ n < 10000000000000 := by
  have hb := valueL_bound l
  rw [h] at hb
  unfold valueL at h
  split at h
  · simp at h
  · split at h
    · simp only [Prod.mk.injEq, decide_eq_true_eq] at h
      rw [← h.1]
      exact ⟨h.2.symm, by have := h.1; omega, by have := h.1; omega⟩
    · simp at h
theorem signedL_num {n : Int} (h0 : -10000000000000 < n) (h1 : n < 10000000000000) : signedL (numL n) = (n, true) := by
  unfold signedL
  by_cases g : n < 0
  · rw [numL_neg g, if_pos (by rfl), List.tail_cons, valueL_dec (by omega) (by omega)]
    simp; omega
  · rw [numL_pos (by omega), if_neg (dec_head45 _), valueL_dec (by omega) (by omega)]
theorem signedL_inv {l : List Int} {n : Int} (h : signedL l = (n, true)) : l = numL n ∧ -10000000000000 < n ∧ n < 10000000000000 := by
  unfold signedL at h
  by_cases g : l.head? = some 45
  · rw [if_pos g] at h
    obtain ⟨D, rfl⟩ : ∃ D, l = 45 :: D := by
      cases l with
      | nil => simp at g
      | cons c D => simp only [List.head?_cons, Option.some.injEq] at g; subst g; exact ⟨D, rfl⟩
    simp only [List.tail_cons, Prod.mk.injEq, Bool.and_eq_true, decide_eq_true_eq] at h
    obtain ⟨h1, h2, h3⟩ := h
    have hv := valueL_inv (l := D) (n := (valueL D).1) (by rw [← h2])
    have h4 := of_decide_eq_true h3
    rw [numL_neg (show n < 0 by omega), show -n = (valueL D).1 by omega, ← hv.1]
    exact ⟨rfl, by omega, by omega⟩
  · rw [if_neg g] at h
    have hv := valueL_inv h
    rw [numL_pos hv.2.1]
    exact ⟨hv.1, by omega, by omega⟩
theorem valueL_of {l : List Int} (h : ∀ c ∈ l, Dig c) (h1 : 1 ≤ l.length) (h2 : l.length ≤ 13) (hz : l.head? = some 48 → l.length = 1) : valueL l = (val l, true) := by
  unfold valueL
  rw [if_neg (by omega), if_pos (allDig_iff.2 h), decide_eq_true (dec_val l h (by intro e; subst e; simp at h1) hz).1]

/-! ### splitting -/
def splB (b : Int) (s : ByteArray) : List ByteArray := (spl b [] (bytesOf s)).map strOfNums
theorem cur_ext (s : ByteArray) (f i : Nat) : strOfNums (((bytesOf s).take i).drop f) = s.extract f i := by
  rw [← bo_ext, of_bo]
theorem spl_len (b : Int) : ∀ (l cur : List Int), (spl b cur l).length ≤ l.length + 1
  | [], cur => by simp [spl]
  | c :: l, cur => by
    unfold spl
    split
    · have := spl_len b l []
      simp only [List.length_cons]; omega
    · have := spl_len b l (cur ++ [c])
      simp only [List.length_cons]; omega
theorem spl_byte (b : Int) : ∀ (l cur : List Int), (∀ c ∈ cur, byte c) → (∀ c ∈ l, byte c) → ∀ w ∈ spl b cur l, ∀ c ∈ w, byte c
  | [], cur, h, _, w, hw, c, hc => by
    simp only [spl, List.mem_singleton] at hw; subst hw; exact h c hc
  | d :: l, cur, h, k, w, hw, c, hc => by
    unfold spl at hw
    split at hw
    · rcases List.mem_cons.1 hw with rfl | hw
      · exact h c hc
      · exact spl_byte b l [] (by simp) (fun x hx => k x (by simp [hx])) w hw c hc
    · refine spl_byte b l _ ?_ (fun x hx => k x (by simp [hx])) w hw c hc
      intro x hx
      rcases List.mem_append.1 hx with hx | hx
      · exact h x hx
      · simp only [List.mem_singleton] at hx; subst hx; exact k x (by simp)
theorem splB_bo (b : Int) (s : ByteArray) : (splB b s).map bytesOf = spl b [] (bytesOf s) := by
  unfold splB
  rw [List.map_map]
  conv => rhs; rw [← List.map_id (spl b [] (bytesOf s))]
  apply List.map_congr_left
  intro w hw
  exact bo_of w (spl_byte b (bytesOf s) [] (by simp) (bo_byte s) w hw)
theorem splB_len (b : Int) (s : ByteArray) : (splB b s).length ≤ s.size + 1 := by
  unfold splB
  rw [List.length_map]
  have := spl_len b (bytesOf s) []
  rwa [bytesOf_length] at this
theorem spl_word_len (b : Int) : ∀ (l cur : List Int), ∀ w ∈ spl b cur l, w.length ≤ cur.length + l.length
  | [], cur, w, hw => by simp only [spl, List.mem_singleton] at hw; subst hw; simp
  | d :: l, cur, w, hw => by
    unfold spl at hw
    split at hw
    · rcases List.mem_cons.1 hw with rfl | hw
      · simp
      · have := spl_word_len b l [] w hw
        simp at this ⊢; omega
    · have := spl_word_len b l _ w hw
      simp at this ⊢; omega
theorem splB_size (b : Int) (s : ByteArray) : ∀ w ∈ splB b s, w.size ≤ s.size := by
  intro w hw
  have h1 : bytesOf w ∈ spl b [] (bytesOf s) := by rw [← splB_bo]; exact List.mem_map_of_mem hw
  have h2 := spl_word_len b (bytesOf s) [] _ h1
  rw [bytesOf_length, bytesOf_length] at h2
  simpa using h2

/-! ### lists of numbers, read -/
theorem isValue_eq (n : Int) : impl_isValue.f n = some (decide (-1000000000000 ≤ n ∧ n ≤ 1000000000000)) := by unfold impl_isValue.f; rw [within_eq]; rfl
theorem l01Is_eq (n : Int) : spec_l01Is.f n = some (decide (-1000000000000 ≤ n ∧ n ≤ 1000000000000)) := by unfold spec_l01Is.f; rw [in_eq]; rfl
/-- these words are these numbers' texts -/
def AreNums : List (List Int) → List Int → Prop
  | [], [] => True
  | w :: ws, n :: ns => w = numL n ∧ (-1000000000000 ≤ n ∧ n ≤ 1000000000000) ∧ AreNums ws ns
  | _, _ => False
theorem numL_inj {m n : Int} (hm : -1000000000000 ≤ m ∧ m ≤ 1000000000000) (hn : -1000000000000 ≤ n ∧ n ≤ 1000000000000) (h : numL m = numL n) : m = n := by
  have h1 := readD_numL (n := m) (by omega) (by omega)
  rw [h, readD_numL (n := n) (by omega) (by omega)] at h1
  exact (Prod.mk.inj h1).1.symm
theorem numL_inj' {m n : Int} (hm : -100000000000000 ≤ m ∧ m ≤ 100000000000000) (hn : -100000000000000 ≤ n ∧ n ≤ 100000000000000) (h : numL m = numL n) : m = n := by
  have h1 := readD_numL (n := m) (by omega) (by omega)
  rw [h, readD_numL (n := n) (by omega) (by omega)] at h1
  exact (Prod.mk.inj h1).1.symm
theorem map_numL_inj : ∀ (a b : List Int), (∀ n ∈ a, -100000000000000 ≤ n ∧ n ≤ 100000000000000) → (∀ n ∈ b, -100000000000000 ≤ n ∧ n ≤ 100000000000000) → a.map numL = b.map numL → a = b
  | [], [], _, _, _ => rfl
  | [], _ :: _, _, _, h => by simp at h
  | _ :: _, [], _, _, h => by simp at h
  | m :: a, n :: b, ha, hb, h => by
    rw [List.map_cons, List.map_cons, List.cons.injEq] at h
    rw [numL_inj' (ha m (by simp)) (hb n (by simp)) h.1, map_numL_inj a b (fun x hx => ha x (by simp [hx])) (fun x hx => hb x (by simp [hx])) h.2]
theorem areNums_uniq : ∀ (ws : List (List Int)) (a b : List Int), AreNums ws a → AreNums ws b → a = b
  | [], [], [], _, _ => rfl
  | w :: ws, m :: a, n :: b, ⟨h1, h2, h3⟩, ⟨k1, k2, k3⟩ => by rw [numL_inj h2 k2 (h1.symm.trans k1), areNums_uniq ws a b h3 k3]
  | [], _ :: _, _, h, _ => h.elim
  | [], [], _ :: _, _, k => k.elim
  | _ :: _, [], _, h, _ => h.elim
  | _ :: _, _ :: _, [], _, k => k.elim
theorem areNums_len : ∀ (ws : List (List Int)) (a : List Int), AreNums ws a → a.length = ws.length
  | [], [], _ => rfl
  | _ :: ws, _ :: a, ⟨_, _, h⟩ => by rw [List.length_cons, List.length_cons, areNums_len ws a h]
  | [], _ :: _, h => h.elim
  | _ :: _, [], h => h.elim
theorem areNums_val : ∀ (ws : List (List Int)) (a : List Int), AreNums ws a → ∀ n ∈ a, -1000000000000 ≤ n ∧ n ≤ 1000000000000
  | [], [], _, n, hn => by simp at hn
  | _ :: ws, m :: a, ⟨_, h1, h⟩, n, hn => by
    rcases List.mem_cons.1 hn with rfl | hn
    · exact h1
    · exact areNums_val ws a h n hn
  | [], _ :: _, h, _, _ => h.elim
  | _ :: _, [], h, _, _ => h.elim
theorem areNums_map : ∀ (a : List Int), (∀ n ∈ a, -1000000000000 ≤ n ∧ n ≤ 1000000000000) → AreNums (a.map numL) a
  | [], _ => trivial
  | n :: a, h => ⟨rfl, h n (by simp), areNums_map a (fun m hm => h m (by simp [hm]))⟩
theorem areNums_words : ∀ (ws : List (List Int)) (a : List Int), AreNums ws a → ws = a.map numL
  | [], [], _ => rfl
  | w :: ws, n :: a, ⟨h, _, k⟩ => by rw [List.map_cons, ← h, ← areNums_words ws a k]
  | [], _ :: _, h => h.elim
  | _ :: _, [], h => h.elim
/-- both answer this -/
def ReadLs (l : List Int) (r : List Int × Int) : Prop :=
  (l = [45] ∧ r = ([], 0)) ∨ (l ≠ [45] ∧ ((∃ a, (spl 44 [] l).length ≤ 60 ∧ AreNums (spl 44 [] l) a ∧ r = (a, 0)) ∨ ((∀ a, ¬ ((spl 44 [] l).length ≤ 60 ∧ AreNums (spl 44 [] l) a)) ∧ r = ([], 6))))
theorem readLs_uniq {l : List Int} {a b : List Int × Int} (h : ReadLs l a) (k : ReadLs l b) : a = b := by
  rcases h with ⟨h1, rfl⟩ | ⟨h1, h⟩ <;> rcases k with ⟨k1, rfl⟩ | ⟨k1, k⟩
  · rfl
  · exact absurd h1 k1
  · exact absurd k1 h1
  · rcases h with ⟨x, h2, h3, rfl⟩ | ⟨h2, rfl⟩ <;> rcases k with ⟨y, k2, k3, rfl⟩ | ⟨k2, rfl⟩
    · rw [areNums_uniq _ x y h3 k3]
    · exact absurd ⟨h2, h3⟩ (k2 x)
    · exact absurd ⟨k2, k3⟩ (h2 y)
    · rfl
theorem dash_iff (s : ByteArray) : s.toList = ([45] : List UInt8) ↔ bytesOf s = [45] := by
  constructor
  · intro h
    have e : s = ⟨#[45]⟩ := by
      apply toList_eq.1
      rw [h, ByteArray.toList_eq]
    rw [e]; rfl
  · intro h
    have e : s = ⟨#[45]⟩ := bo_inj (by rw [h]; rfl)
    rw [e, ByteArray.toList_eq]
def valuesM (l : List Int) : Int := if (∀ n ∈ l, -1000000000000 ≤ n ∧ n ≤ 1000000000000) then (if l.length > 60 then 3 else 0) else 2
theorem spec_l01Values_l0 (l : List Int) (hl : l.length ≤ 2000000) : ∀ (R : List Int) (i : Nat), l.drop i = R → Ev (fun k => spec_l01Values.l0 k l i) (if (∀ n ∈ R, -1000000000000 ≤ n ∧ n ≤ 1000000000000) then (if l.length > 60 then 3 else 0) else 2) := by
  intro R
  induction R with
  | nil =>
    intro i h
    have h1 := drop_nil h
    rw [if_pos (by simp)]
    refine Ev.step (fun k => spec_l01Values.l0.eq_2 ..) (ev_neg (by omega) ?_)
    by_cases a : (l.length : Int) > 60
    · have e : (if l.length > 60 then (3 : Int) else 0) = 3 := if_pos (by omega)
      rw [e]; exact ev_pos a (Ev.now _)
    · have e : (if l.length > 60 then (3 : Int) else 0) = 0 := if_neg (by omega)
      rw [e]; exact ev_neg a (Ev.now _)
  | cons n R ih =>
    intro i h
    obtain ⟨h1, h2, h3⟩ := rd_drop h
    refine Ev.step (fun k => spec_l01Values.l0.eq_2 ..) (ev_pos (by omega) (ev_pos (by omega) ?_))
    rw [h2, w64 (n := (i : Int) + 1) (by omega) (by omega)]
    refine ev_bind0 (l01Is_eq n) ?_
    by_cases a : -1000000000000 ≤ n ∧ n ≤ 1000000000000
    · refine ev_pos (by simpa using a) ?_
      have := ih (i + 1) h3
      have e : (∀ m ∈ n :: R, -1000000000000 ≤ m ∧ m ≤ 1000000000000) ↔ ∀ m ∈ R, -1000000000000 ≤ m ∧ m ≤ 1000000000000 := by simp [a]
      simp only [e]
      exact this
    · refine ev_neg (by simpa using a) ?_
      rw [if_neg (fun h => a (h n (by simp)))]
      exact Ev.now _
theorem spec_l01Values_ev (l : List Int) (hl : l.length ≤ 2000000) : Ev (fun k => spec_l01Values.f k l) (valuesM l) := spec_l01Values_l0 l hl l 0 rfl
/-! ### lists of numbers, written -/
def Vals (l : List Int) : Prop := ∀ n ∈ l, -1000000000000 ≤ n ∧ n ≤ 1000000000000
def numsL (l : List Int) : List Int := if l = [] then [45] else joi 44 (l.map numL)
theorem impl_numbersText_l0 (l : List Int) (hl : l.length ≤ 1000000) (hv : Vals l) : ∀ (R : List Int) (i : Nat) (out : List ByteArray), l.drop i = R → out.length ≤ i → out.map bytesOf = (l.take i).map numL →
    ∃ r, Ev (fun k => impl_numbersText.l0 k out l (l.length : Int) i) r ∧ bytesOf r = joi 44 (l.map numL) := by
  intro R
  induction R with
  | nil =>
    intro i out h ho hm
    have h1 := drop_nil h
    have hz : ∀ w ∈ out, w.size ≤ 1000000 := by
      intro w hw
      have : bytesOf w ∈ out.map bytesOf := List.mem_map_of_mem hw
      rw [hm] at this
      obtain ⟨n, hn, e⟩ := List.mem_map.1 this
      have hb := hv n (List.mem_of_mem_take hn)
      have := numL_len (n := n) (by omega) (by omega)
      have e' := sz_bo e.symm
      omega
    have e := congrArg List.length hm
    simp only [List.length_map, List.length_take] at e
    obtain ⟨r, er, hr⟩ := impl_joinWith_ev out (by omega) hz
    refine ⟨r, Ev.step (fun k => impl_numbersText.l0.eq_2 ..) (ev_neg (by omega) (er.bind (Ev.now _))), ?_⟩
    rw [hr, hm, List.take_of_length_le h1]
  | cons n R ih =>
    intro i out h ho hm
    obtain ⟨h1, h2, h3⟩ := rd_drop h
    have hn : n ∈ l := by
      have : n ∈ l.drop i := by rw [h]; simp
      exact List.mem_of_mem_drop this
    have hb := hv n hn
    obtain ⟨t, et, ht⟩ := impl_decimal_ev (n := n) (by omega) (by omega)
    obtain ⟨r, er, hr⟩ := ih (i + 1) (out ++ [t]) h3 (by simp; omega) (by rw [List.map_append, hm, snoc_take h, List.map_append]; simp [ht])
    refine ⟨r, Ev.step (fun k => impl_numbersText.l0.eq_2 ..) (ev_pos (by omega) (ev_pos (by omega) (ev_pos (by omega) ?_))), hr⟩
    rw [h2, w64 (n := (i : Int) + 1) (by omega) (by omega)]
    exact et.bind (ev_pos (by omega) er)
theorem impl_numbersText_ev (l : List Int) (hl : l.length ≤ 1000000) (hv : Vals l) : ∃ r, Ev (fun k => impl_numbersText.f k l) r ∧ bytesOf r = joi 44 (l.map numL) :=
  impl_numbersText_l0 l hl hv l 0 [] rfl (by simp) (by simp)
theorem spec_l01Join_l0 (l : List Int) (hl : l.length ≤ 1000000) (hv : ∀ n ∈ l, -1000000000000000000 ≤ n ∧ n ≤ 1000000000000000000) : ∀ (R : List Int) (i : Nat) (A : ByteArray), l.drop i = R → A.size ≤ i * 2000000 →
    ∃ r, Ev (fun k => spec_l01Join.l0 k l ⟨#[44]⟩ A i) r ∧ bytesOf r = bytesOf A ++ joP i (R.map numL) := by
  intro R
  induction R with
  | nil =>
    intro i A h hA
    have := drop_nil h
    exact ⟨A, Ev.step (fun k => spec_l01Join.l0.eq_2 ..) (ev_neg (by omega) (Ev.now _)), by simp [joP_nil]⟩
  | cons n R ih =>
    intro i A h hA
    obtain ⟨h1, h2, h3⟩ := rd_drop h
    have hn : n ∈ l := by
      have : n ∈ l.drop i := by rw [h]; simp
      exact List.mem_of_mem_drop this
    have hb := hv n hn
    obtain ⟨w, ew, hw⟩ := spec_l01Number_ev (n := n) (by omega) (by omega)
    have hws : w.size ≤ 20 := by rw [sz_bo hw]; exact numL_len (n := n) (by omega) (by omega)
    cases i with
    | zero =>
      obtain ⟨r, er, hr⟩ := ih 1 (A ++ w) h3 (by rw [ByteArray.size_append]; omega)
      refine ⟨r, Ev.step (fun k => spec_l01Join.l0.eq_2 ..) (ev_pos (by omega) (ev_neg (by omega) (ev_pos (by omega) ?_))), ?_⟩
      · rw [h2, w64 (by omega) (by omega)]
        exact ew.bind (ev_pos (by omega) er)
      · rw [hr, bo_app, List.map_cons, joP_zero, List.append_assoc, hw]
    | succ i =>
      obtain ⟨r, er, hr⟩ := ih (i + 2) ((A ++ ⟨#[44]⟩) ++ w) h3 (by rw [ByteArray.size_append, ByteArray.size_append, sz_comma]; omega)
      refine ⟨r, Ev.step (fun k => spec_l01Join.l0.eq_2 ..) (ev_pos (by omega) (ev_pos (by omega) (ev_pos (by rw [sz_comma]; omega) (ev_pos (by omega) ?_)))), ?_⟩
      · rw [h2, w64 (n := ((i + 1 : Nat) : Int) + 1) (by omega) (by omega)]
        exact ew.bind (ev_pos (by rw [ByteArray.size_append, sz_comma]; omega) er)
      · rw [hr, bo_app, bo_app, bo_comma, List.map_cons, joP_succ, List.append_assoc, List.append_assoc, List.singleton_append, hw]
theorem spec_l01Join_ev (l : List Int) (hl : l.length ≤ 1000000) (hv : ∀ n ∈ l, -1000000000000000000 ≤ n ∧ n ≤ 1000000000000000000) : ∃ r, Ev (fun k => spec_l01Join.f k l ⟨#[44]⟩) r ∧ bytesOf r = joi 44 (l.map numL) := by
  obtain ⟨r, er, hr⟩ := spec_l01Join_l0 l hl hv l 0 ⟨#[]⟩ rfl (by have : (⟨#[]⟩ : ByteArray).size = 0 := rfl; omega)
  exact ⟨r, er, by rw [hr, bo_nil]; rfl⟩
theorem spec_l01Text_ev (l : List Int) (hl : l.length ≤ 1000000) (hv : ∀ n ∈ l, -1000000000000000000 ≤ n ∧ n ≤ 1000000000000000000) : ∃ r, Ev (fun k => spec_l01Text.f k l) r ∧ bytesOf r = numsL l := by
  unfold spec_l01Text.f numsL
  by_cases a : l = []
  · rw [if_pos a]; exact ⟨_, ev_pos (by simp [a]) (Ev.now _), rfl⟩
  · rw [if_neg a]
    obtain ⟨r, er, hr⟩ := spec_l01Join_ev l hl hv
    exact ⟨r, ev_neg (by have := List.length_pos_iff.2 a; omega) (er.bind (Ev.now _)), hr⟩
/-- the answer of ListText -/
def ListT (l : List Int) (r : ByteArray × Int) : Prop := (valuesM l ≠ 0 ∧ r = (⟨#[]⟩, valuesM l)) ∨ (valuesM l = 0 ∧ bytesOf r.1 = numsL l ∧ r.2 = 0)
theorem listT_uniq {l : List Int} {a b : ByteArray × Int} (h : ListT l a) (k : ListT l b) : a = b := by
  rcases h with ⟨h1, rfl⟩ | ⟨h1, h2, h3⟩ <;> rcases k with ⟨k1, rfl⟩ | ⟨k1, k2, k3⟩
  · rfl
  · exact absurd k1 h1
  · exact absurd h1 k1
  · obtain ⟨a1, a2⟩ := a; obtain ⟨b1, b2⟩ := b
    simp only at *
    rw [h3, k3, bo_inj (h2.trans k2.symm)]
theorem vals_of {l : List Int} (h : valuesM l = 0) : Vals l ∧ l.length ≤ 60 := by
  unfold valuesM at h
  split at h
  · split at h
    · omega
    · exact ⟨by assumption, by omega⟩
  · omega
theorem valuesM_of {l : List Int} (h : Vals l) (k : l.length ≤ 60) : valuesM l = 0 := by
  unfold valuesM
  have h' : ∀ n ∈ l, -1000000000000 ≤ n ∧ n ≤ 1000000000000 := h
  rw [if_pos h', if_neg (by omega)]
theorem spec_ListText_ev (l : List Int) (hl : l.length ≤ 1000000) : ∃ r, Ev (fun k => spec_ListText.f k l) r ∧ ListT l r := by
  have hv := spec_l01Values_ev l (by omega)
  by_cases a : valuesM l = 0
  · have hb := vals_of a
    obtain ⟨r, er, hr⟩ := spec_l01Text_ev l hl (fun n hn => by have := hb.1 n hn; omega)
    exact ⟨(r, 0), hv.bind (ev_pos a (er.bind (Ev.now _))), .inr ⟨a, hr, rfl⟩⟩
  · exact ⟨_, hv.bind (ev_neg a (Ev.now _)), .inl ⟨a, rfl⟩⟩
theorem impl_areValues_l0 (l : List Int) (hl : l.length ≤ 4611686018427387904) : ∀ (R : List Int) (i : Nat), l.drop i = R → Ev (fun k => impl_areValues.l0 k l (l.length : Int) i) (decide (∀ n ∈ R, -1000000000000 ≤ n ∧ n ≤ 1000000000000)) := by
  intro R
  induction R with
  | nil =>
    intro i h
    have := drop_nil h
    exact Ev.step (fun k => impl_areValues.l0.eq_2 ..) (ev_neg (by omega) (ev_ret (by simp)))
  | cons n R ih =>
    intro i h
    obtain ⟨h1, h2, h3⟩ := rd_drop h
    refine Ev.step (fun k => impl_areValues.l0.eq_2 ..) (ev_pos (by omega) (ev_pos (by omega) (ev_pos (by omega) ?_)))
    rw [h2, w64 (n := (i : Int) + 1) (by omega) (by omega)]
    refine ev_bind0 (isValue_eq n) ?_
    by_cases a : -1000000000000 ≤ n ∧ n ≤ 1000000000000
    · refine ev_pos (by simpa using a) ?_
      have := ih (i + 1) h3
      have e : (∀ m ∈ n :: R, -1000000000000 ≤ m ∧ m ≤ 1000000000000) ↔ ∀ m ∈ R, -1000000000000 ≤ m ∧ m ≤ 1000000000000 := by simp [a]
      rw [decide_eq_decide.2 e]
      exact this
    · exact ev_neg (by simpa using a) (ev_ret (by symm; exact decide_eq_false (fun h => a (h n (by simp)))))
theorem impl_areValues_ev (l : List Int) (hl : l.length ≤ 4611686018427387904) : Ev (fun k => impl_areValues.f k l) (decide (∀ n ∈ l, -1000000000000 ≤ n ∧ n ≤ 1000000000000)) := impl_areValues_l0 l hl l 0 rfl
theorem impl_ListText_ev (l : List Int) (hl : l.length ≤ 1000000) : ∃ r, Ev (fun k => impl_ListText.f k l) r ∧ ListT l r := by
  have hv := impl_areValues_ev l (by omega)
  by_cases a : ∀ n ∈ l, -1000000000000 ≤ n ∧ n ≤ 1000000000000
  · by_cases b : (l.length : Int) > 60
    · have e : valuesM l = 3 := by unfold valuesM; rw [if_pos a, if_pos (by omega)]
      exact ⟨_, hv.bind (ev_pos (by simpa using a) (ev_pos b (Ev.now _))), .inl ⟨by omega, by rw [e]⟩⟩
    · have e : valuesM l = 0 := valuesM_of a (by omega)
      by_cases c : l = []
      · exact ⟨_, hv.bind (ev_pos (by simpa using a) (ev_neg b (ev_pos (by simp [c]) (Ev.now _)))), .inr ⟨e, by unfold numsL; rw [if_pos c]; rfl, rfl⟩⟩
      · obtain ⟨r, er, hr⟩ := impl_numbersText_ev l hl a
        exact ⟨(r, 0), hv.bind (ev_pos (by simpa using a) (ev_neg b (ev_neg (by have := List.length_pos_iff.2 c; omega) (er.bind (Ev.now _))))), .inr ⟨e, by unfold numsL; rw [if_neg c]; exact hr, rfl⟩⟩
  · have e : valuesM l = 2 := by unfold valuesM; rw [if_neg a]
    exact ⟨_, hv.bind (ev_neg (by simpa using a) (Ev.now _)), .inl ⟨by omega, by rw [e]⟩⟩
theorem ListText_both (l : List Int) (hl : l.length ≤ 1000000) : ∃ r, Ev (fun k => impl_ListText.f k l) r ∧ Ev (fun k => spec_ListText.f k l) r ∧ ListT l r := by
  obtain ⟨a, ha, ha'⟩ := impl_ListText_ev l hl
  obtain ⟨b, hb, hb'⟩ := spec_ListText_ev l hl
  obtain rfl := listT_uniq ha' hb'
  exact ⟨a, ha, hb, ha'⟩
/-! #### there and back -/
theorem comma_numL (n : Int) : (44 : Int) ∉ numL n := by
  intro h
  by_cases a : n < 0
  · rw [numL_neg a] at h
    rcases List.mem_cons.1 h with h | h
    · omega
    · have := dec_dig _ _ h
      unfold Dig at this; omega
  · rw [numL_pos (by omega)] at h
    have := dec_dig _ _ h
    unfold Dig at this; omega
theorem numL_dash (n : Int) : numL n ≠ [45] := by
  intro h
  by_cases a : n < 0
  · rw [numL_neg a] at h
    exact dec_ne _ (by simpa using h)
  · rw [numL_pos (by omega)] at h
    have := dec_dig n.toNat 45 (by rw [h]; simp)
    unfold Dig at this; omega
theorem joi_dash {ws : List (List Int)} (h : ws ≠ []) (h44 : ∀ w ∈ ws, (44 : Int) ∉ w) (h45 : ∀ w ∈ ws, w ≠ [45]) : joi 44 ws ≠ [45] := by
  intro e
  have := spl_joi 44 ws h h44
  rw [e] at this
  have e2 : spl 44 [] [45] = [[45]] := by simp [spl]
  rw [e2] at this
  exact h45 [45] (by rw [← this]; simp) rfl
theorem numsL_read {s : List Int} {x : List Int} (h : ReadLs s (x, 0)) : numsL x = s ∧ Vals x ∧ x.length ≤ 60 := by
  rcases h with ⟨rfl, h⟩ | ⟨h1, ⟨a, h2, h3, h⟩ | ⟨_, h⟩⟩
  · obtain ⟨rfl, _⟩ := Prod.mk.inj h
    exact ⟨rfl, by intro n hn; simp at hn, by simp⟩
  · obtain ⟨rfl, _⟩ := Prod.mk.inj h
    have hw := areNums_words _ _ h3
    have hne : x ≠ [] := by
      rintro rfl
      exact spl_ne 44 s [] hw
    refine ⟨?_, areNums_val _ _ h3, by have := areNums_len _ _ h3; omega⟩
    unfold numsL
    rw [if_neg hne, ← hw, joi_spl]; rfl
  · have := (Prod.mk.inj h).2; omega
theorem read_numsL {l : List Int} (h : Vals l) (k : l.length ≤ 60) : ReadLs (numsL l) (l, 0) := by
  unfold numsL
  by_cases a : l = []
  · rw [if_pos a]; exact .inl ⟨rfl, by rw [a]⟩
  · rw [if_neg a]
    have hne : l.map numL ≠ [] := by simpa using a
    have h44 : ∀ w ∈ l.map numL, (44 : Int) ∉ w := by
      intro w hw
      obtain ⟨n, _, rfl⟩ := List.mem_map.1 hw
      exact comma_numL n
    have e := spl_joi 44 (l.map numL) hne h44
    refine .inr ⟨joi_dash hne h44 (fun w hw => by obtain ⟨n, _, rfl⟩ := List.mem_map.1 hw; exact numL_dash n), .inl ⟨l, ?_, ?_, rfl⟩⟩
    · rw [e, List.length_map]; exact k
    · rw [e]; exact areNums_map l h
theorem jr_len : ∀ (ws : List (List Int)), (∀ w ∈ ws, w.length ≤ 20) → (jr ws).length ≤ 21 * ws.length
  | [], _ => by simp [jr]
  | w :: ws, h => by
    have h1 := h w (by simp)
    have h2 := jr_len ws (fun v hv => h v (by simp [hv]))
    simp only [jr, List.length_cons, List.length_append]
    omega
theorem joi_len {ws : List (List Int)} (h : ∀ w ∈ ws, w.length ≤ 20) : (joi 44 ws).length ≤ 21 * ws.length := by
  cases ws with
  | nil => simp [joi]
  | cons w ws =>
    have h1 := h w (by simp)
    have h2 := jr_len ws (fun v hv => h v (by simp [hv]))
    rw [joi_jr]
    simp only [List.length_cons, List.length_append]
    omega
theorem numsL_len {l : List Int} (h : ∀ n ∈ l, -1000000000000000000 ≤ n ∧ n ≤ 1000000000000000000) : (numsL l).length ≤ 21 * l.length + 1 := by
  unfold numsL
  split
  · simp
  · have := joi_len (ws := l.map numL) (fun w hw => by obtain ⟨n, hn, rfl⟩ := List.mem_map.1 hw; exact numL_len (h n hn).1 (h n hn).2)
    rw [List.length_map] at this
    omega
theorem readLs_len {l : List Int} {r : List Int × Int} (h : ReadLs l r) : r.1.length ≤ 60 := by
  rcases h with ⟨_, rfl⟩ | ⟨_, ⟨a, h1, h2, rfl⟩ | ⟨_, rfl⟩⟩
  · simp
  · have := areNums_len _ _ h2
    simp only; omega
  · simp
theorem readLs_or {l : List Int} {x : List Int} {n : Int} (h : ReadLs l (x, n)) : n = 0 ∨ n = 6 := by
  rcases h with ⟨_, h⟩ | ⟨_, ⟨a, _, _, h⟩ | ⟨_, h⟩⟩
  · exact .inl (Prod.mk.inj h).2
  · exact .inl (Prod.mk.inj h).2
  · exact .inr (Prod.mk.inj h).2

/-! ### lists marked and held -/
theorem set_mid {α : Type} (P R : List α) (c m : α) : (P ++ c :: R).set P.length m = P ++ m :: R := by
  rw [List.set_append_right _ _ (by omega)]; simp
theorem drop_mid {α : Type} (P R : List α) : (P ++ R).drop P.length = R := by simp
def mkI (m : Int) : Nat → List Int
  | 0 => []
  | n + 1 => m :: mkI (m + 1) n
theorem mkI_len : ∀ (n : Nat) (m : Int), (mkI m n).length = n
  | 0, _ => rfl
  | n + 1, m => by simp [mkI, mkI_len n]
theorem eqInt64S_l0 (l : List Int) (hl : l.length ≤ 4611686018427387904) : ∀ (R : List Int) (i : Nat), l.drop i = R → Ev (fun k => laws_eqInt64S.l0 k l l i) true := by
  intro R
  induction R with
  | nil =>
    intro i h
    have := drop_nil h
    exact Ev.step (fun k => laws_eqInt64S.l0.eq_2 ..) (ev_neg (by omega) (Ev.now _))
  | cons c R ih =>
    intro i h
    obtain ⟨h1, h2, h3⟩ := rd_drop h
    refine Ev.step (fun k => laws_eqInt64S.l0.eq_2 ..) (ev_pos (by omega) (ev_pos (by omega) (ev_pos (by omega) (ev_pos rfl ?_))))
    rw [w64 (n := (i : Int) + 1) (by omega) (by omega)]
    exact ih (i + 1) h3
theorem eqInt64S_ev (l : List Int) (hl : l.length ≤ 4611686018427387904) : Ev (fun k => laws_eqInt64S.f k l l) true := by
  have h := eqInt64S_l0 l hl l 0 rfl
  exact ev_pos rfl h
/-! #### the same of strings -/
/-! ### slices laid out with room behind -/
theorem room_some (n : Nat) (h : n ≤ 1000000000) : ∃ t, laws_roomBehind.f (n : Int) = some t ∧ 0 ≤ t ∧ t ≤ 1000000000 := by
  unfold laws_roomBehind.f
  split
  · exact ⟨_, rfl, by omega, by omega⟩
  · split
    · exact ⟨_, rfl, by omega, by omega⟩
    · exact ⟨_, rfl, by omega, by omega⟩
theorem take_set_ge {α : Type} (x : List α) (n j : Nat) (v : α) (h : n ≤ j) : (x.set j v).take n = x.take n := by
  rw [List.take_set, List.set_eq_of_length_le (by rw [List.length_take]; omega)]
theorem take_set_next {α : Type} (x l : List α) (i : Nat) (c : α) (hi : i < x.length) (hc : l[i]? = some c) (h : x.take i = l.take i) : (x.set i c).take (i + 1) = l.take (i + 1) := by
  obtain ⟨y, hy⟩ : ∃ y, x[i]? = some y := ⟨x[i], List.getElem?_eq_getElem hi⟩
  have hl : (x.set i c)[i]? = some c := by rw [List.getElem?_set_self hi]
  rw [List.take_add_one, List.take_add_one, hl, hc, take_set_ge _ _ _ _ (Nat.le_refl i), h]
theorem toInt64SF_l1 (l : List Int) (hl : l.length ≤ 1000000000) : ∀ (d : Nat) (x : List Int) (j : Nat), x.length - j = d → x.length ≤ 3000000000 → l.length ≤ j → j ≤ x.length → x.take l.length = l →
    ∃ L, Ev (fun k => laws_toInt64SF.l1 k l x (j : Int)) L ∧ L.length = x.length ∧ L.take l.length = l := by
  intro d
  induction d with
  | zero =>
    intro x j hd hx hj hjx ht
    exact ⟨x, Ev.step (fun k => laws_toInt64SF.l1.eq_2 ..) (ev_neg (by omega) (ev_pos (by omega) (ev_pos (by omega) (Ev.now _)))), rfl, ht⟩
  | succ d ih =>
    intro x j hd hx hj hjx ht
    obtain ⟨L, e, h1, h2⟩ := ih (x.set j (-7000000000000000101)) (j + 1) (by rw [List.length_set]; omega) (by rw [List.length_set]; omega) (by omega) (by rw [List.length_set]; omega) (by rw [take_set_ge _ _ _ _ hj, ht])
    refine ⟨L, Ev.step (fun k => laws_toInt64SF.l1.eq_2 ..) (ev_pos (by omega) (ev_pos (by omega) ?_)), by rw [h1, List.length_set], h2⟩
    rw [Int.toNat_natCast, w64 (n := (j : Int) + 1) (by omega) (by omega)]
    exact e
theorem toInt64SF_l0 (l : List Int) (hl : l.length ≤ 1000000000) : ∀ (R : List Int) (i : Nat) (x : List Int), l.drop i = R → i ≤ l.length → l.length ≤ x.length → x.length ≤ 3000000000 → x.take i = l.take i →
    ∃ L, Ev (fun k => laws_toInt64SF.l0 k l x (i : Int)) L ∧ L.length = x.length ∧ L.take l.length = l := by
  intro R
  induction R with
  | nil =>
    intro i x h hi hx hx' ht
    have h1 := drop_nil h
    obtain ⟨L, e, h2⟩ := toInt64SF_l1 l hl (x.length - l.length) x l.length rfl hx' (Nat.le_refl _) hx (by rw [show l.length = i by omega, ht, List.take_of_length_le h1])
    exact ⟨L, Ev.step (fun k => laws_toInt64SF.l0.eq_2 ..) (ev_neg (by omega) e), h2⟩
  | cons c R ih =>
    intro i x h hi hx hx' ht
    obtain ⟨h1, h2, h3⟩ := rd_drop h
    obtain ⟨_, hc, _⟩ := drop_cons h
    obtain ⟨L, e, h4, h5⟩ := ih (i + 1) (x.set i c) h3 (by omega) (by rw [List.length_set]; omega) (by rw [List.length_set]; omega) (take_set_next x l i c (by omega) hc ht)
    refine ⟨L, Ev.step (fun k => laws_toInt64SF.l0.eq_2 ..) (ev_pos (by omega) (ev_pos (by omega) (ev_pos (by omega) ?_))), by rw [h4, List.length_set], h5⟩
    rw [h2, Int.toNat_natCast, w64 (n := (i : Int) + 1) (by omega) (by omega)]
    exact e
theorem toInt64SF_ev (l : List Int) (hl : l.length ≤ 1000000000) {t : Int} (ht : laws_roomBehind.f (l.length : Int) = some t) (t0 : 0 ≤ t) (t1 : t ≤ 1000000000) : ∃ L, Ev (fun k => laws_toInt64SF.f k l false) L ∧ (L.length : Int) = l.length + t ∧ L.take l.length = l := by
  obtain ⟨L, e, h1, h2⟩ := toInt64SF_l0 l hl l 0 (List.replicate ((l.length : Int) + t).toNat 0) rfl (by omega) (by rw [List.length_replicate]; omega) (by rw [List.length_replicate]; omega) (by simp)
  rw [List.length_replicate] at h1
  refine ⟨L, ?_, by omega, h2⟩
  refine ev_neg (by decide) (Ev.step (fun k => laws_toInt64SF.j0.eq_2 ..) (ev_neg (by decide) (ev_bind0 ht ?_)))
  rw [w64 (n := (l.length : Int) + t) (by omega) (by omega)]
  exact ev_pos (by omega) (ev_pos (by omega) e)
/-! #### the same, its room forgotten -/
theorem toInt64S_l1 (l : List Int) (hl : l.length ≤ 1000000000) : ∀ (d : Nat) (x : List Int) (j : Nat), x.length - j = d → x.length ≤ 3000000000 → l.length ≤ j → j ≤ x.length → x.take l.length = l →
    Ev (fun k => laws_toInt64S.l1 k l x (j : Int)) l := by
  intro d
  induction d with
  | zero =>
    intro x j hd hx hj hjx ht
    exact Ev.step (fun k => laws_toInt64S.l1.eq_2 ..) (ev_neg (by omega) (ev_pos (by omega) (ev_pos (by omega) (ev_ret (by rw [Int.toNat_natCast, ht])))))
  | succ d ih =>
    intro x j hd hx hj hjx ht
    have e := ih (x.set j (-7000000000000000101)) (j + 1) (by rw [List.length_set]; omega) (by rw [List.length_set]; omega) (by omega) (by rw [List.length_set]; omega) (by rw [take_set_ge _ _ _ _ hj, ht])
    refine Ev.step (fun k => laws_toInt64S.l1.eq_2 ..) (ev_pos (by omega) (ev_pos (by omega) ?_))
    rw [Int.toNat_natCast, w64 (n := (j : Int) + 1) (by omega) (by omega)]
    exact e
theorem toInt64S_l0 (l : List Int) (hl : l.length ≤ 1000000000) : ∀ (R : List Int) (i : Nat) (x : List Int), l.drop i = R → i ≤ l.length → l.length ≤ x.length → x.length ≤ 3000000000 → x.take i = l.take i →
    Ev (fun k => laws_toInt64S.l0 k l x (i : Int)) l := by
  intro R
  induction R with
  | nil =>
    intro i x h hi hx hx' ht
    have h1 := drop_nil h
    have e := toInt64S_l1 l hl (x.length - l.length) x l.length rfl hx' (Nat.le_refl _) hx (by rw [show l.length = i by omega, ht, List.take_of_length_le h1])
    exact Ev.step (fun k => laws_toInt64S.l0.eq_2 ..) (ev_neg (by omega) e)
  | cons c R ih =>
    intro i x h hi hx hx' ht
    obtain ⟨h1, h2, h3⟩ := rd_drop h
    obtain ⟨_, hc, _⟩ := drop_cons h
    have e := ih (i + 1) (x.set i c) h3 (by omega) (by rw [List.length_set]; omega) (by rw [List.length_set]; omega) (take_set_next x l i c (by omega) hc ht)
    refine Ev.step (fun k => laws_toInt64S.l0.eq_2 ..) (ev_pos (by omega) (ev_pos (by omega) (ev_pos (by omega) ?_)))
    rw [h2, Int.toNat_natCast, w64 (n := (i : Int) + 1) (by omega) (by omega)]
    exact e
theorem toInt64S_bare (l : List Int) (hl : l.length ≤ 1000000000) : Ev (fun k => laws_toInt64S.f k l true) l := by
  refine ev_pos rfl (Ev.step (fun k => laws_toInt64S.j0.eq_2 ..) ?_)
  by_cases a : l.length = 0
  · exact ev_pos (by simp [a]) (ev_ret (by symm; exact List.length_eq_zero_iff.1 a))
  · obtain ⟨t, et, t0, t1⟩ := room_some l.length hl
    refine ev_neg (by simp; intro h; simp [h] at a) (ev_bind0 et ?_)
    rw [w64 (n := (l.length : Int) + t) (by omega) (by omega)]
    refine ev_pos (by omega) (ev_pos (by omega) ?_)
    exact toInt64S_l0 l hl l 0 (List.replicate ((l.length : Int) + t).toNat 0) rfl (by omega) (by rw [List.length_replicate]; omega) (by rw [List.length_replicate]; omega) (by simp)

theorem takeC {w : World} {A : Option Addr} {l L : List Int} (hLt : L.take l.length = l) (hLl : l.length ≤ L.length) (h : Kd.C (Kd.int .i64) w A L.length L) : Kd.C (Kd.int .i64) w A l.length l := by
  have := Kd.C_take (m := l.length) h hLl
  rwa [hLt] at this
set_option maxHeartbeats 8000000 in
set_option maxRecDepth 100000 in
theorem go (k : Nat) (A0 : Option Addr) (c0 : Nat) (l0 L : List Int) (t : ByteArray) (b room : Int) (w : World) (hr0 : Kd.C (Kd.int .i64) w A0 l0.length l0) (hc0 : l0.length ≤ c0) (hn : l0.length ≤ 1000000)
    (hfull : laws_toInt64SF.f k l0 false = some L) (hLt : L.take l0.length = l0) (hLl : l0.length ≤ L.length) (hLr : (L.length : Int) = l0.length + room) (hroom : laws_roomBehind.f (l0.length : Int) = some room) (hr0_ : 0 ≤ room) (hr1_ : room ≤ 1000000000000)
    (hbare : laws_toInt64S.f k l0 true = some l0) (hspec : spec_ListText.f k l0 = some (t, b)) (himpl : impl_ListText.f k l0 = some (t, b)) (heq : laws_eqInt64S.f k L L = some true) :
    Calls Try.prog 11 #[.slice A0 l0.length c0] w fun e w' => e = .returned (.bool true) ∧ Below w.heap.size w w' := by
  have takeC : ∀ {w : World} {A : Option Addr}, Kd.C (Kd.int .i64) w A L.length L → Kd.C (Kd.int .i64) w A l0.length l0 := takeC hLt hLl
  have HR0 := Aside0.mk hr0
  have HC0 := Aside0.mk hc0
  have HB := Aside0.mk (Below.refl w.heap.size w)
  have c2b0 : decide (1000000 < (l0.length : Int)) = false := decide_eq_false (by omega)
  have c2b1 : decide (1000000 < l0.length) = false := decide_eq_false (by omega)
  have c14b0 : (t.toList == t.toList) = true := by simp
  have c14b1 : (t.toList != t.toList) = false := by simp
  have c15b0 : (b == b) = true := by simp
  have c15b1 : (b != b) = false := by simp
  replace hn : l0.length ≤ 1000000000000 := by omega
  clear hr0 hc0
  go_enter Try.func11, Try.ntmps11
  go_wp2_with (first | ((with_reducible refine gate_callee (f := 31) rfl ?_); refine goesL_ (some 15) rfl rfl Try.func31 (by kernel_rfl) rfl #[.slice A0 l0.length c0, .bool false] rfl (by (try simp only [List.map_toArray, List.map_cons, List.map_nil]); first | done | rfl | (simp only [List.length_drop, List.length_take]; rfl) | (go_simp; done) | (simp; done) | (simp; rfl)) ?_; (with_reducible refine (laws_toInt64SF.calls k _ _ l0 false L _ ?side1 ?side2 hfull).mono ?_); (case side1 => repeat (first | exact (Kd.C_below HR0.out (by repeat (first | (with_reducible first | exact HB.out | apply below_alloc | apply pw_below_drewN | apply below_drew1) | exact HB.out))) | (with_reducible refine Kd.C_alloc ?_ _) | (with_reducible refine Kd.C_drewN ?_ _) | (with_reducible refine Kd.C_drew ?_))); (case side2 => exact HC0.out); rintro e wp ⟨Ap, cp, rfl, hR, _, hb⟩; have HKp := Aside0.mk (Kd.R_reads' hR).2.2; have HLp := Aside0.mk (Kd.R_reads' hR).2.1; clear hR; refine ⟨_, rfl, ?_⟩; have nb_ := Aside0.mk (below_step (by repeat (first | (with_reducible first | exact HB.out | apply below_alloc | apply pw_below_drewN | apply below_drew1) | exact HB.out)) hb); clear HB; have HB := nb_; clear nb_ hb) | ((with_reducible refine gate_callee (f := 23) rfl ?_); refine goesL_ (some 16) rfl rfl Try.func23 (by kernel_rfl) rfl #[.slice Ap l0.length cp] rfl (by (try simp only [List.map_toArray, List.map_cons, List.map_nil]); first | done | rfl | (simp only [List.length_drop, List.length_take]; rfl) | (go_simp; done) | (simp; done) | (simp; rfl)) ?_; (with_reducible refine (spec_ListText.calls k _ _ l0 t b _ ?side1 ?side2 hspec).mono ?_); (case side1 => repeat (first | exact (takeC HKp.out) | (with_reducible refine Kd.C_alloc ?_ _) | (with_reducible refine Kd.C_drewN ?_ _) | (with_reducible refine Kd.C_drew ?_))); (case side2 => exact (Nat.le_trans hLl HLp.out)); rintro e wq ⟨rfl, hb⟩; refine ⟨_, rfl, ?_⟩; have n0_ := Aside0.mk (Kd.C_below (by repeat (first | exact HKp.out | (with_reducible refine Kd.C_alloc ?_ _) | (with_reducible refine Kd.C_drewN ?_ _) | (with_reducible refine Kd.C_drew ?_))) hb); have nb_ := Aside0.mk (below_step (by repeat (first | (with_reducible first | exact HB.out | apply below_alloc | apply pw_below_drewN | apply below_drew1) | exact HB.out)) hb); clear HKp; clear HB; have HKp := n0_; have HB := nb_; clear n0_ nb_ hb) | ((with_reducible refine gate_callee (f := 31) rfl ?_); refine goesL_ (some 20) rfl rfl Try.func31 (by kernel_rfl) rfl #[.slice A0 l0.length c0, .bool false] rfl (by (try simp only [List.map_toArray, List.map_cons, List.map_nil]); first | done | rfl | (simp only [List.length_drop, List.length_take]; rfl) | (go_simp; done) | (simp; done) | (simp; rfl)) ?_; (with_reducible refine (laws_toInt64SF.calls k _ _ l0 false L _ ?side1 ?side2 hfull).mono ?_); (case side1 => repeat (first | exact (Kd.C_below HR0.out (by repeat (first | (with_reducible first | exact HB.out | apply below_alloc | apply pw_below_drewN | apply below_drew1) | exact HB.out))) | (with_reducible refine Kd.C_alloc ?_ _) | (with_reducible refine Kd.C_drewN ?_ _) | (with_reducible refine Kd.C_drew ?_))); (case side2 => exact HC0.out); rintro e wx ⟨Ax, cx, rfl, hR, _, hb⟩; have HKx := Aside0.mk (Kd.R_reads' hR).2.2; have HLx := Aside0.mk (Kd.R_reads' hR).2.1; clear hR; refine ⟨_, rfl, ?_⟩; have nb_ := Aside0.mk (below_step (by repeat (first | (with_reducible first | exact HB.out | apply below_alloc | apply pw_below_drewN | apply below_drew1) | exact HB.out)) hb); clear HB; have HB := nb_; clear nb_ hb) | ((with_reducible refine gate_callee (f := 22) rfl ?_); refine goesL_ (some 23) rfl rfl Try.func22 (by kernel_rfl) rfl #[.slice Ax l0.length cx] rfl (by (try simp only [List.map_toArray, List.map_cons, List.map_nil]); first | done | rfl | (simp only [List.length_drop, List.length_take]; rfl) | (go_simp; done) | (simp; done) | (simp; rfl)) ?_; (with_reducible refine (impl_ListText.calls k _ _ l0 t b _ ?side1 ?side2 himpl).mono ?_); (case side1 => repeat (first | exact (takeC HKx.out) | (with_reducible refine Kd.C_alloc ?_ _) | (with_reducible refine Kd.C_drewN ?_ _) | (with_reducible refine Kd.C_drew ?_))); (case side2 => exact (Nat.le_trans hLl HLx.out)); rintro e wr ⟨rfl, hb⟩; refine ⟨_, rfl, ?_⟩; have n0_ := Aside0.mk (Kd.C_below (by repeat (first | exact HKx.out | (with_reducible refine Kd.C_alloc ?_ _) | (with_reducible refine Kd.C_drewN ?_ _) | (with_reducible refine Kd.C_drew ?_))) hb); have nb_ := Aside0.mk (below_step (by repeat (first | (with_reducible first | exact HB.out | apply below_alloc | apply pw_below_drewN | apply below_drew1) | exact HB.out)) hb); clear HKx; clear HB; have HKx := n0_; have HB := nb_; clear n0_ nb_ hb) | ((with_reducible refine gate_callee (f := 31) rfl ?_); refine goesL_ (some 36) rfl rfl Try.func31 (by kernel_rfl) rfl #[.slice A0 l0.length c0, .bool false] rfl (by (try simp only [List.map_toArray, List.map_cons, List.map_nil]); first | done | rfl | (simp only [List.length_drop, List.length_take]; rfl) | (go_simp; done) | (simp; done) | (simp; rfl)) ?_; (with_reducible refine (laws_toInt64SF.calls k _ _ l0 false L _ ?side1 ?side2 hfull).mono ?_); (case side1 => repeat (first | exact (Kd.C_below HR0.out (by repeat (first | (with_reducible first | exact HB.out | apply below_alloc | apply pw_below_drewN | apply below_drew1) | exact HB.out))) | (with_reducible refine Kd.C_alloc ?_ _) | (with_reducible refine Kd.C_drewN ?_ _) | (with_reducible refine Kd.C_drew ?_))); (case side2 => exact HC0.out); rintro e wy ⟨Ay, cy, rfl, hR, _, hb⟩; have HKy := Aside0.mk (Kd.R_reads' hR).2.2; have HLy := Aside0.mk (Kd.R_reads' hR).2.1; clear hR; refine ⟨_, rfl, ?_⟩; have n0_ := Aside0.mk (Kd.C_below (by repeat (first | exact HKx.out | (with_reducible refine Kd.C_alloc ?_ _) | (with_reducible refine Kd.C_drewN ?_ _) | (with_reducible refine Kd.C_drew ?_))) hb); have nb_ := Aside0.mk (below_step (by repeat (first | (with_reducible first | exact HB.out | apply below_alloc | apply pw_below_drewN | apply below_drew1) | exact HB.out)) hb); clear HKx; clear HB; have HKx := n0_; have HB := nb_; clear n0_ nb_ hb) | ((with_reducible refine gate_callee (f := 34) rfl ?_); refine goesL_ (some 37) rfl rfl Try.func34 (by kernel_rfl) rfl #[.slice Ax l0.length cx, .slice Ay l0.length cy] rfl (by (try simp only [List.map_toArray, List.map_cons, List.map_nil]); first | done | rfl | (simp only [List.length_drop, List.length_take]; rfl) | (go_simp; done) | (simp; done) | (simp; rfl)) ?_; (with_reducible refine (laws_intactInt64SF.calls k l0.length _ _ L _ _ L room _ ?side1 ?side2 ?side3 ?side4 hroom hn hr0_ hr1_ hLr hLr heq).mono ?_); (case side1 => repeat (first | exact HKx.out | (with_reducible refine Kd.C_alloc ?_ _) | (with_reducible refine Kd.C_drewN ?_ _) | (with_reducible refine Kd.C_drew ?_))); (case side2 => exact HLx.out); (case side3 => repeat (first | exact HKy.out | (with_reducible refine Kd.C_alloc ?_ _) | (with_reducible refine Kd.C_drewN ?_ _) | (with_reducible refine Kd.C_drew ?_))); (case side4 => exact HLy.out); rintro e ws ⟨rfl, hb⟩; refine ⟨_, rfl, ?_⟩; have n0_ := Aside0.mk (Kd.C_below (by repeat (first | exact HKx.out | (with_reducible refine Kd.C_alloc ?_ _) | (with_reducible refine Kd.C_drewN ?_ _) | (with_reducible refine Kd.C_drew ?_))) hb); have n1_ := Aside0.mk (Kd.C_below (by repeat (first | exact HKy.out | (with_reducible refine Kd.C_alloc ?_ _) | (with_reducible refine Kd.C_drewN ?_ _) | (with_reducible refine Kd.C_drew ?_))) hb); have nb_ := Aside0.mk (below_step (by repeat (first | (with_reducible first | exact HB.out | apply below_alloc | apply pw_below_drewN | apply below_drew1) | exact HB.out)) hb); clear HKx; clear HKy; clear HB; have HKx := n0_; have HKy := n1_; have HB := nb_; clear n0_ n1_ nb_ hb) | ((with_reducible refine gate_callee (f := 31) rfl ?_); refine goesL_ (some 41) rfl rfl Try.func31 (by kernel_rfl) rfl #[.slice A0 l0.length c0, .bool true] rfl (by (try simp only [List.map_toArray, List.map_cons, List.map_nil]); first | done | rfl | (simp only [List.length_drop, List.length_take]; rfl) | (go_simp; done) | (simp; done) | (simp; rfl)) ?_; (with_reducible refine (laws_toInt64S.calls k _ _ l0 true l0 _ ?side1 ?side2 hbare).mono ?_); (case side1 => repeat (first | exact (Kd.C_below HR0.out (by repeat (first | (with_reducible first | exact HB.out | apply below_alloc | apply pw_below_drewN | apply below_drew1) | exact HB.out))) | (with_reducible refine Kd.C_alloc ?_ _) | (with_reducible refine Kd.C_drewN ?_ _) | (with_reducible refine Kd.C_drew ?_))); (case side2 => exact HC0.out); rintro e wz ⟨vz, rfl, hR, hb⟩; obtain ⟨Az, cz, ez⟩ := Kd.R_slice hR; subst ez; have HKz := Aside0.mk (Kd.R_reads' hR).2.2; have HLz := Aside0.mk (Kd.R_reads' hR).2.1; clear hR; refine ⟨_, rfl, ?_⟩; have nb_ := Aside0.mk (below_step (by repeat (first | (with_reducible first | exact HB.out | apply below_alloc | apply pw_below_drewN | apply below_drew1) | exact HB.out)) hb); clear HB; have HB := nb_; clear nb_ hb) | ((with_reducible refine gate_callee (f := 22) rfl ?_); refine goesL_ (some 42) rfl rfl Try.func22 (by kernel_rfl) rfl #[.slice Az l0.length cz] rfl (by (try simp only [List.map_toArray, List.map_cons, List.map_nil]); first | done | rfl | (simp only [List.length_drop, List.length_take]; rfl) | (go_simp; done) | (simp; done) | (simp; rfl)) ?_; (with_reducible refine (impl_ListText.calls k _ _ l0 t b _ ?side1 ?side2 himpl).mono ?_); (case side1 => repeat (first | exact HKz.out | (with_reducible refine Kd.C_alloc ?_ _) | (with_reducible refine Kd.C_drewN ?_ _) | (with_reducible refine Kd.C_drew ?_))); (case side2 => exact HLz.out); rintro e wt ⟨rfl, hb⟩; refine ⟨_, rfl, ?_⟩; have n0_ := Aside0.mk (Kd.C_below (by repeat (first | exact HKz.out | (with_reducible refine Kd.C_alloc ?_ _) | (with_reducible refine Kd.C_drewN ?_ _) | (with_reducible refine Kd.C_drew ?_))) hb); have nb_ := Aside0.mk (below_step (by repeat (first | (with_reducible first | exact HB.out | apply below_alloc | apply pw_below_drewN | apply below_drew1) | exact HB.out)) hb); clear HKz; clear HB; have HKz := n0_; have HB := nb_; clear n0_ nb_ hb))
  go_ret
  exact ⟨by first | rfl | (simp [errW_none, errW_some] <;> rfl) | (simp [*, errW_none, errW_some] <;> rfl), by repeat (first | (with_reducible first | exact HB.out | apply below_alloc | apply pw_below_drewN | apply below_drew1) | exact HB.out)⟩
set_option maxHeartbeats 8000000 in
set_option maxRecDepth 100000 in
theorem big (A0 : Option Addr) (c0 : Nat) (l0 : List Int) (w : World) (hn : 1000000 < l0.length) : Calls Try.prog 11 #[.slice A0 l0.length c0] w fun e w' => e = .returned (.bool true) ∧ Below w.heap.size w w' := by
  have HB := Aside0.mk (Below.refl w.heap.size w)
  have c2b0 : decide (1000000 < (l0.length : Int)) = true := decide_eq_true (by omega)
  have c2b1 : decide (1000000 < l0.length) = true := decide_eq_true (by omega)
  go_enter Try.func11, Try.ntmps11
  go_wp2
  go_ret
  exact ⟨by first | rfl | (simp [errW_none, errW_some] <;> rfl) | (simp [*, errW_none, errW_some] <;> rfl), by repeat (first | (with_reducible first | exact HB.out | apply below_alloc | apply pw_below_drewN | apply below_drew1) | exact HB.out)⟩
theorem walk (W : World) (a0 : Option Addr) (len0 cap0 : Nat) (z0 : List Int) (w0 : (a0 = none ∧ len0 = 0 ∧ cap0 = 0 ∧ z0 = []) ∨ ∃ x, a0 = some x ∧ len0 ≤ cap0 ∧ cap0 ≤ maxLen ∧ z0.length = cap0 ∧ (∀ i, i < z0.length → W.cell? (x.add i) = some (.int .i64 (z0.getD i 0))) ∧ ∀ n ∈ z0, (Lit.int .i64 n).wf = true) (y0 : len0 * 8 ≤ 140737488351232) :
    Calls Try.prog 11 #[.slice a0 len0 cap0] W fun e w' => e = .returned (.bool true) ∧ Below W.heap.size W w' := by
  obtain ⟨l0, rfl, hr0, hm0, hw0, hc0⟩ := ReadsInt.ofRowC w0
  have hr := Kd.C_of_reads (d := (0 : Int)) (h1 := fun _ => rfl) hr0
  by_cases g : 1000000 < l0.length
  · exact big a0 cap0 l0 W g
  obtain ⟨room, er, r0, r1⟩ := room_some l0.length (by omega)
  obtain ⟨L, eF, hF, hT⟩ := toInt64SF_ev l0 (by omega) er r0 r1
  obtain ⟨⟨t, b⟩, ⟨K1, h1⟩, ⟨K2, h2⟩, _⟩ := ListText_both l0 (by omega)
  obtain ⟨K3, h3⟩ := eF
  obtain ⟨K4, h4⟩ := toInt64S_bare l0 (by omega)
  obtain ⟨K5, h5⟩ := eqInt64S_ev L (by omega)
  exact go (K1 + K2 + K3 + K4 + K5) a0 cap0 l0 L t b room W hr hc0 (by omega) (h3 _ (by omega)) hT (by omega) (by omega) er r0 (by omega) (h4 _ (by omega)) (h2 _ (by omega)) (h1 _ (by omega)) (h5 _ (by omega))


end Go.Proofs.Ytgcjjpaljfgiaaa.GoFnExactListText
