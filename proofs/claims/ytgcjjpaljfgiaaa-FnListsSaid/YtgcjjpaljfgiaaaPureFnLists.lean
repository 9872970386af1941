/- A list of numbers is recovered from its text; no condition. -/
import Derived.Test.YtgcjjpaljfgiaaaMa
import Derived.Test.YtgcjjpaljfgiaaaQFnListsx
namespace Go.Proofs.Ytgcjjpaljfgiaaa.PureFnLists
open Go.RowKit Go.Proofs.Ytgcjjpaljfgiaaa.QFnLists Go.Proofs.YtgcjjpaljfgiaaaW.PrintWords Go.Proofs.YtgcjjpaljfgiaaaW.PrintLast Go.Proofs.Ytgcjjpaljfgiaaa.Ma
set_option linter.unusedVariables false
set_option linter.unusedSimpArgs false

/-! ### division, ranges -/
theorem in_eq (a b c : Int) : spec_l01In.f a b c = some (decide (b ≤ a ∧ a ≤ c)) := by
  unfold spec_l01In.f
  by_cases h : b ≤ a <;> simp [h]
theorem within_eq (a b c : Int) : impl_within.f a b c = some (decide (b ≤ a ∧ a ≤ c)) := by
  unfold impl_within.f
  by_cases h : b ≤ a <;> simp [h]
theorem tdiv_floor {a b : Int} (hb : 0 < b) : (Int.tmod a b < 0 → Int.tdiv a b - 1 = a / b) ∧ (¬ Int.tmod a b < 0 → Int.tdiv a b = a / b) := by
  have h1 := Int.tdiv_eq_ediv (a := a) (b := b)
  have h2 := Int.tmod_eq_emod (a := a) (b := b)
  have h3 := Int.emod_nonneg a (show b ≠ 0 by omega)
  have h4 := Int.emod_lt_of_pos a hb
  by_cases h : 0 ≤ a ∨ b ∣ a
  · rw [if_pos h] at h1 h2
    omega
  · rw [if_neg h] at h1 h2
    rw [Int.sign_eq_one_of_pos hb] at h1
    omega
theorem ediv_small {a b : Int} (hb : 0 < b) (h : -4611686018427387904 ≤ a) (h' : a ≤ 4611686018427387904) : -4611686018427387904 ≤ a / b ∧ a / b ≤ 4611686018427387904 := by
  have h1 : -4611686018427387904 * b ≤ a := by
    have := Int.mul_le_mul_of_nonneg_left (show 1 ≤ b by omega) (show (0 : Int) ≤ 4611686018427387904 by omega); omega
  have h2 : a < (4611686018427387904 + 1) * b := by
    have := Int.mul_le_mul_of_nonneg_left (show 1 ≤ b by omega) (show (0 : Int) ≤ 4611686018427387905 by omega); omega
  have h3 := (Int.le_ediv_iff_mul_le hb).2 h1
  have h4 := (Int.ediv_lt_iff_lt_mul hb).2 h2
  omega
/-! ### words joined by commas -/
def jr : List (List Int) → List Int
  | [] => []
  | w :: ws => 44 :: (w ++ jr ws)
theorem joi_jr : ∀ (w : List Int) (ws : List (List Int)), joi 44 (w :: ws) = w ++ jr ws
  | w, [] => by simp [joi, jr]
  | w, v :: ws => by rw [joi_cons 44 w (by simp), joi_jr v ws]; rfl
def joP (i : Nat) (ws : List (List Int)) : List Int := if i = 0 then joi 44 ws else jr ws
theorem joP_nil (i : Nat) : joP i [] = [] := by unfold joP; split <;> rfl
theorem joP_zero (w : List Int) (ws : List (List Int)) : joP 0 (w :: ws) = w ++ joP 1 ws := by
  unfold joP; rw [if_pos rfl, if_neg (by omega), joi_jr]
theorem joP_succ (i : Nat) (w : List Int) (ws : List (List Int)) : joP (i + 1) (w :: ws) = 44 :: (w ++ joP (i + 2) ws) := by
  unfold joP; rw [if_neg (by omega), if_neg (by omega)]; rfl
theorem bo_comma : bytesOf (⟨#[44]⟩ : ByteArray) = [44] := rfl
theorem sz_comma : (⟨#[44]⟩ : ByteArray).size = 1 := rfl
theorem impl_joinWith_l0 (ws : List ByteArray) (hl : ws.length ≤ 1000000) (hz : ∀ w ∈ ws, w.size ≤ 1000000) : ∀ (R : List ByteArray) (i : Nat) (A : ByteArray), ws.drop i = R → A.size ≤ i * 2000000 →
    ∃ r, Ev (fun k => impl_joinWith.l0 k ⟨#[44]⟩ A ws (ws.length : Int) i) r ∧ bytesOf r = bytesOf A ++ joP i (R.map bytesOf) := by
  intro R
  induction R with
  | nil =>
    intro i A h hA
    have := drop_nil h
    exact ⟨A, Ev.step (fun k => impl_joinWith.l0.eq_2 ..) (ev_neg (by omega) (Ev.now _)), by simp [joP_nil]⟩
  | cons w R ih =>
    intro i A h hA
    obtain ⟨h1, h2, h3⟩ := rdOf_drop (d := ByteArray.empty) h
    have hw : w ∈ ws := by
      have : w ∈ ws.drop i := by rw [h]; simp
      exact List.mem_of_mem_drop this
    have hws := hz w hw
    cases i with
    | zero =>
      obtain ⟨r, er, hr⟩ := ih 1 (A ++ w) h3 (by rw [ByteArray.size_append]; omega)
      refine ⟨r, Ev.step (fun k => impl_joinWith.l0.eq_2 ..) (ev_pos (by omega) (ev_pos (by omega) (ev_pos (by omega) (ev_neg (by omega) ?_)))), ?_⟩
      · rw [h2, w64 (by omega) (by omega)]
        exact ev_pos (by omega) er
      · rw [hr, bo_app, List.map_cons, joP_zero, List.append_assoc]
    | succ i =>
      obtain ⟨r, er, hr⟩ := ih (i + 2) ((A ++ ⟨#[44]⟩) ++ w) h3 (by rw [ByteArray.size_append, ByteArray.size_append, sz_comma]; omega)
      refine ⟨r, Ev.step (fun k => impl_joinWith.l0.eq_2 ..) (ev_pos (by omega) (ev_pos (by omega) (ev_pos (by omega) (ev_pos (by omega) ?_)))), ?_⟩
      · rw [h2, w64 (n := ((i + 1 : Nat) : Int) + 1) (by omega) (by omega)]
        exact ev_pos (by rw [sz_comma]; omega) (ev_pos (by rw [ByteArray.size_append, sz_comma]; omega) er)
      · rw [hr, bo_app, bo_app, bo_comma, List.map_cons, joP_succ, List.append_assoc, List.append_assoc, List.singleton_append]
theorem impl_joinWith_ev (ws : List ByteArray) (hl : ws.length ≤ 1000000) (hz : ∀ w ∈ ws, w.size ≤ 1000000) : ∃ r, Ev (fun k => impl_joinWith.f k ws ⟨#[44]⟩) r ∧ bytesOf r = joi 44 (ws.map bytesOf) := by
  obtain ⟨r, er, hr⟩ := impl_joinWith_l0 ws hl hz ws 0 ⟨#[]⟩ rfl (by have : (⟨#[]⟩ : ByteArray).size = 0 := rfl; omega)
  exact ⟨r, er, by rw [hr, bo_nil]; rfl⟩
/-! ### numbers in decimal -/
def numL (n : Int) : List Int := if n < 0 then 45 :: dec (-n).toNat else dec n.toNat
theorem numL_pos {n : Int} (h : 0 ≤ n) : numL n = dec n.toNat := by unfold numL; rw [if_neg (by omega)]
theorem numL_neg {n : Int} (h : n < 0) : numL n = 45 :: dec (-n).toNat := by unfold numL; rw [if_pos h]
theorem sz_bo {s : ByteArray} {l : List Int} (h : bytesOf s = l) : s.size = l.length := by rw [← h, bytesOf_length]
theorem byte_dig {c : Int} (h : Dig c) : byte c := by unfold Dig at h; unfold byte; omega
theorem bo_one {c : Int} (h : byte c) : bytesOf (strOfNums [c]) = [c] := bo_of _ (fun x hx => by simp only [List.mem_singleton] at hx; subst hx; exact h)
theorem bo_lit (l : List UInt8) : bytesOf ⟨l.toArray⟩ = l.map fun b => (b.toNat : Int) := rfl
theorem pow_int (k : Nat) : ((10 ^ k : Nat) : Int) = (10 : Int) ^ k := by simp
theorem dec_len_le' {n : Int} {k : Nat} (h0 : 0 ≤ n) (h : n < 10 ^ (k + 1)) : (dec n.toNat).length ≤ k + 1 := by
  refine dec_len_le k n.toNat ?_
  have := pow_int (k + 1)
  omega
/-- the byte of the last digit -/
theorem dig_byte {n : Int} (h : 0 ≤ n) : (wrap64 (48 + (Int.tmod n 10))) % 256 = 48 + n % 10 := by
  rw [Int.tmod_eq_emod_of_nonneg h, w64 (by omega) (by omega)]; omega
theorem impl_decimal_l0 : ∀ (d : Nat) (n : Int) (x : ByteArray), 0 ≤ n → n < 10 ^ (d + 1) → n ≤ 9223372036854775807 → x.size + d ≤ 4611686018427387904 → ∃ r, Ev (fun k => impl_decimal.l0 k n x) r ∧ bytesOf r = dec n.toNat ++ bytesOf x := by
  intro d
  induction d with
  | zero =>
    intro n x h0 h1 h2 h3
    have hb : bytesOf (strOfNums [48 + n % 10]) = [48 + n % 10] := bo_one (by unfold byte; omega)
    have hs := sz_bo hb
    refine ⟨strOfNums [48 + n % 10] ++ x, Ev.step (fun k => impl_decimal.l0.eq_2 ..) (ev_bind0 rfl ?_), ?_⟩
    · rw [dig_byte h0, Int.tdiv_eq_ediv_of_nonneg h0, w64 (by omega) (by omega)]
      simp only [List.length_singleton] at hs
      exact ev_pos (by omega) (ev_pos (by omega) (Ev.now _))
    · rw [bo_app, hb, dec_small (by omega)]
      congr 2; omega
  | succ d ih =>
    intro n x h0 h1 h2 h3
    have hb : bytesOf (strOfNums [48 + n % 10]) = [48 + n % 10] := bo_one (by unfold byte; omega)
    have hs := sz_bo hb
    simp only [List.length_singleton] at hs
    by_cases g : n / 10 = 0
    · refine ⟨strOfNums [48 + n % 10] ++ x, Ev.step (fun k => impl_decimal.l0.eq_2 ..) (ev_bind0 rfl ?_), ?_⟩
      · rw [dig_byte h0, Int.tdiv_eq_ediv_of_nonneg h0, w64 (by omega) (by omega)]
        exact ev_pos (by omega) (ev_pos g (Ev.now _))
      · rw [bo_app, hb, dec_small (by omega)]
        congr 2; omega
    · obtain ⟨r, hr, e⟩ := ih (n / 10) (strOfNums [48 + n % 10] ++ x) (by omega) (by rw [Int.pow_succ] at h1; omega) (by omega) (by rw [ByteArray.size_append]; omega)
      refine ⟨r, Ev.step (fun k => impl_decimal.l0.eq_2 ..) (ev_bind0 rfl ?_), ?_⟩
      · rw [dig_byte h0, Int.tdiv_eq_ediv_of_nonneg h0, w64 (by omega) (by omega)]
        exact ev_pos (by omega) (ev_neg g hr)
      · rw [e, bo_app, hb, dec_big (n := n.toNat) (by omega), show n.toNat / 10 = (n / 10).toNat by omega, show ((n.toNat % 10 : Nat) : Int) = n % 10 by omega]
        simp
theorem impl_decimal_nn {n : Int} (h0 : 0 ≤ n) (h1 : n ≤ 1000000000000000000) : ∃ r, Ev (fun k => impl_decimal.f k n) r ∧ bytesOf r = dec n.toNat := by
  obtain ⟨r, hr, e⟩ := impl_decimal_l0 18 n ⟨#[]⟩ h0 (by omega) (by omega) (by decide)
  refine ⟨r, Ev.step (fun k => impl_decimal.f.eq_2 ..) (ev_neg (by omega) hr), ?_⟩
  rw [e, bo_nil]; simp
theorem impl_decimal_ev {n : Int} (h0 : -1000000000000000000 ≤ n) (h1 : n ≤ 1000000000000000000) : ∃ r, Ev (fun k => impl_decimal.f k n) r ∧ bytesOf r = numL n := by
  by_cases g : n < 0
  · obtain ⟨r, hr, e⟩ := impl_decimal_nn (n := -n) (by omega) (by omega)
    have hl := dec_len_le' (n := -n) (k := 18) (by omega) (by omega)
    have hs := sz_bo e
    refine ⟨(⟨#[45]⟩ : ByteArray) ++ r, Ev.step (fun k => impl_decimal.f.eq_2 ..) (ev_pos g ?_), ?_⟩
    · rw [w64 (by omega) (by omega)]
      exact hr.bind (ev_pos (by omega) (Ev.now _))
    · rw [bo_app, e, numL_neg g]; rfl
  · obtain ⟨r, hr, e⟩ := impl_decimal_nn (n := n) (by omega) h1
    exact ⟨r, hr, by rw [e, numL_pos (by omega)]⟩
theorem spec_l01Dec_d : ∀ (d : Nat) (n : Int), 0 ≤ n → n < 10 ^ (d + 1) → n ≤ 9223372036854775807 → d ≤ 1000 → ∃ r, Ev (fun k => spec_l01Dec.f k n) r ∧ bytesOf r = dec n.toNat := by
  intro d
  induction d with
  | zero =>
    intro n h0 h1 h2 _
    have hb : bytesOf (strOfNums [48 + n]) = [48 + n] := bo_one (by unfold byte; omega)
    refine ⟨strOfNums [48 + n], Ev.step (fun k => spec_l01Dec.f.eq_2 ..) (ev_pos (by omega) (ev_ret ?_)), ?_⟩
    · rw [w64 (by omega) (by omega), show (48 + n) % 256 = 48 + n by omega]
    · rw [hb, dec_small (by omega)]
      congr 2; omega
  | succ d ih =>
    intro n h0 h1 h2 hd
    by_cases g : n < 10
    · have hb : bytesOf (strOfNums [48 + n]) = [48 + n] := bo_one (by unfold byte; omega)
      refine ⟨strOfNums [48 + n], Ev.step (fun k => spec_l01Dec.f.eq_2 ..) (ev_pos g (ev_ret ?_)), ?_⟩
      · rw [w64 (by omega) (by omega), show (48 + n) % 256 = 48 + n by omega]
      · rw [hb, dec_small (by omega)]
        congr 2; omega
    · have hb : bytesOf (strOfNums [48 + n % 10]) = [48 + n % 10] := bo_one (by unfold byte; omega)
      have hs := sz_bo hb
      simp only [List.length_singleton] at hs
      obtain ⟨r, hr, e⟩ := ih (n / 10) (by omega) (by rw [Int.pow_succ] at h1; omega) (by omega) (by omega)
      have hl := dec_len_le' (n := n / 10) (k := d) (by omega) (by rw [Int.pow_succ] at h1; omega)
      have hsr := sz_bo e
      refine ⟨r ++ strOfNums [48 + n % 10], Ev.step (fun k => spec_l01Dec.f.eq_2 ..) (ev_neg g ?_), ?_⟩
      · rw [dig_byte h0, Int.tdiv_eq_ediv_of_nonneg h0, w64 (by omega) (by omega)]
        exact hr.bind (ev_bind0 rfl (ev_pos (by omega) (Ev.now _)))
      · rw [bo_app, e, hb, dec_big (n := n.toNat) (by omega), show n.toNat / 10 = (n / 10).toNat by omega, show ((n.toNat % 10 : Nat) : Int) = n % 10 by omega]
theorem spec_l01Dec_ev {n : Int} (h0 : 0 ≤ n) (h1 : n ≤ 1000000000000000000) : ∃ r, Ev (fun k => spec_l01Dec.f k n) r ∧ bytesOf r = dec n.toNat := spec_l01Dec_d 18 n h0 (by omega) (by omega) (by omega)
theorem spec_l01Number_ev {n : Int} (h0 : -1000000000000000000 ≤ n) (h1 : n ≤ 1000000000000000000) : ∃ r, Ev (fun k => spec_l01Number.f k n) r ∧ bytesOf r = numL n := by
  unfold spec_l01Number.f
  by_cases g : n < 0
  · obtain ⟨r, hr, e⟩ := spec_l01Dec_ev (n := -n) (by omega) (by omega)
    have hl := dec_len_le' (n := -n) (k := 18) (by omega) (by omega)
    have hs := sz_bo e
    refine ⟨(⟨#[45]⟩ : ByteArray) ++ r, ev_pos g ?_, ?_⟩
    · rw [w64 (by omega) (by omega)]
      exact hr.bind (ev_pos (by omega) (Ev.now _))
    · rw [bo_app, e, numL_neg g]; rfl
  · obtain ⟨r, hr, e⟩ := spec_l01Dec_ev (n := n) (by omega) h1
    exact ⟨r, ev_neg g (hr.bind (Ev.now _)), by rw [e, numL_pos (by omega)]⟩
theorem numL_len {n : Int} (h0 : -1000000000000000000 ≤ n) (h1 : n ≤ 1000000000000000000) : (numL n).length ≤ 20 := by
  by_cases g : n < 0
  · rw [numL_neg g]
    have hl := dec_len_le' (n := -n) (k := 18) (by omega) (by omega)
    simp; omega
  · rw [numL_pos (by omega)]
    have hl := dec_len_le' (n := n) (k := 18) (by omega) (by omega)
    omega

/-! ### numbers, read -/
theorem val_take_step {v c : Int} (h : Dig c) (h0 : 0 ≤ v) (h1 : v ≤ 100000000000000000) : wrap64 ((wrap64 (10 * v)) + ((c - 48) % 256)) = 10 * v + (c - 48) := by
  unfold Dig at h
  rw [w64 (n := 10 * v) (by omega) (by omega), show (c - 48) % 256 = c - 48 by omega, w64 (by omega) (by omega)]
def foldV (v : Int) (l : List Int) : Int := l.foldl (fun a c => 10 * a + (c - 48)) v
theorem foldV_cons (v c : Int) (l : List Int) : foldV v (c :: l) = foldV (10 * v + (c - 48)) l := rfl
theorem foldV_zero (l : List Int) : foldV 0 l = val l := rfl
instance (c : Int) : Decidable (Dig c) := by unfold Dig; infer_instance
def allDig (l : List Int) : Bool := l.all fun c => decide (Dig c)
theorem allDig_iff {l : List Int} : allDig l = true ↔ ∀ c ∈ l, Dig c := by unfold allDig; simp
theorem allDig_cons {c : Int} {l : List Int} : allDig (c :: l) = (decide (Dig c) && allDig l) := rfl
theorem dig_lo {c : Int} (h : c < 48) : ¬ Dig c := by unfold Dig; omega
theorem dig_hi {c : Int} (h : c > 57) : ¬ Dig c := by unfold Dig; omega
theorem dig_in {c : Int} (h : ¬ c < 48) (h' : ¬ c > 57) : Dig c := by unfold Dig; omega
/-- the digits of a number, read one by one: v holds what has been read, less than ten to the power of what is left of eighteen -/
theorem impl_readDecimal_l0 (x s : ByteArray) (hs : s.size ≤ 18) : ∀ (R : List Int) (i : Nat) (v : Int), (bytesOf s).drop i = R → i ≤ s.size → 0 ≤ v → v < 10 ^ i →
    Ev (fun k => impl_readDecimal.l0 k x s v i) (if allDig R = true then ((if s.size < x.size then -(foldV v R) else foldV v R), true) else (0, false)) := by
  intro R
  induction R with
  | nil =>
    intro i v h hi v0 v1
    have h1 := bo_drop_nil h
    have hp : (10 : Int) ^ i ≤ 10 ^ 18 := by
      have := Nat.pow_le_pow_right (show 0 < 10 by omega) (show i ≤ 18 by omega)
      have e1 := pow_int i
      have e2 := pow_int 18
      omega
    refine Ev.step (fun k => impl_readDecimal.l0.eq_2 ..) (ev_neg (by omega) ?_)
    rw [if_pos (show allDig [] = true from rfl)]
    by_cases g : s.size < x.size
    · refine ev_pos (by omega) (ev_ret ?_)
      rw [if_pos g, w64 (by omega) (by omega)]; rfl
    · refine ev_neg (by omega) (ev_ret ?_)
      rw [if_neg g]; rfl
  | cons c R ih =>
    intro i v h hi v0 v1
    obtain ⟨h1, h2, h3⟩ := bt_drop h
    have hp : (10 : Int) ^ i ≤ 10 ^ 17 := by
      have := Nat.pow_le_pow_right (show 0 < 10 by omega) (show i ≤ 17 by omega)
      have e1 := pow_int i
      have e2 := pow_int 17
      omega
    refine Ev.step (fun k => impl_readDecimal.l0.eq_2 ..) (ev_pos (by omega) (ev_pos (by omega) ?_))
    rw [h2]
    by_cases a : c < 48
    · exact ev_pos a (ev_ret (by rw [allDig_cons]; simp [dig_lo a]))
    · refine ev_neg a ?_
      by_cases b : c > 57
      · exact ev_pos b (ev_ret (by rw [allDig_cons]; simp [dig_hi b]))
      · refine ev_neg b ?_
        have hd := dig_in a b
        rw [val_take_step hd v0 (by omega), w64 (n := (i : Int) + 1) (by omega) (by omega)]
        have := ih (i + 1) (10 * v + (c - 48)) h3 (by omega) (by unfold Dig at hd; omega) (by unfold Dig at hd; rw [Int.pow_succ]; omega)
        rw [allDig_cons, foldV_cons]
        simp only [hd, decide_true, Bool.true_and]
        exact this
/-- what readDecimal answers -/
def readD1 (D l : List Int) : Int × Bool :=
  if D.length = 0 ∨ D.length > 18 ∨ (D.head? = some 48 ∧ (D.length > 1 ∨ l.length > 1)) then (0, false)
  else if allDig D = true then ((if D.length < l.length then -(val D) else val D), true) else (0, false)
def readD (l : List Int) : Int × Bool := if l.head? = some 45 then readD1 l.tail l else readD1 l l
theorem impl_readDecimal_j2 (x s : ByteArray) (hs : s.size ≤ 18) : Ev (fun k => impl_readDecimal.j2 k x s false) (if allDig (bytesOf s) = true then ((if s.size < x.size then -(val (bytesOf s)) else val (bytesOf s)), true) else (0, false)) := by
  have := impl_readDecimal_l0 x s hs (bytesOf s) 0 0 rfl (by omega) (by omega) (by decide)
  exact Ev.step (fun k => impl_readDecimal.j2.eq_2 ..) (ev_neg (by simp) this)
theorem impl_readDecimal_j2t (x s : ByteArray) : Ev (fun k => impl_readDecimal.j2 k x s true) (0, false) := Ev.step (fun k => impl_readDecimal.j2.eq_2 ..) (ev_pos rfl (Ev.now _))
theorem bt_head {s : ByteArray} (h : 0 < s.size) : (bytesOf s).head? = some (bt s 0) := by
  have hl := bytesOf_length s
  cases hb : bytesOf s with
  | nil => rw [hb] at hl; simp at hl; omega
  | cons c R =>
    obtain ⟨_, h2, _⟩ := bt_drop (i := 0) (R := R) (c := c) (s := s) (by rw [hb]; rfl)
    simp only [List.head?_cons, Option.some.injEq]
    exact h2.symm
theorem impl_readDecimal_j1 (x s : ByteArray) (hx : x.size ≤ 4611686018427387904) (hsx : s.size ≤ x.size) : Ev (fun k => impl_readDecimal.j1 k x s) (readD1 (bytesOf s) (bytesOf x)) := by
  have hl := bytesOf_length s
  have hlx := bytesOf_length x
  unfold readD1
  refine Ev.step (fun k => impl_readDecimal.j1.eq_2 ..) ?_
  by_cases a : (s.size : Int) = 0
  · rw [if_pos (.inl (by omega))]
    exact ev_pos a (impl_readDecimal_j2t x s)
  refine ev_neg a ?_
  by_cases b : (s.size : Int) > 18
  · rw [if_pos (.inr (.inl (by omega)))]
    exact ev_pos b (impl_readDecimal_j2t x s)
  refine ev_neg b (ev_pos (by omega) ?_)
  have hh := bt_head (s := s) (by omega)
  have hj := impl_readDecimal_j2 x s (by omega)
  rw [← hl, ← hlx] at hj
  by_cases c : bt s 0 = 48
  · refine ev_pos c ?_
    by_cases d : (s.size : Int) > 1
    · rw [if_pos (.inr (.inr ⟨by rw [hh, c], .inl (by omega)⟩))]
      exact ev_pos d (impl_readDecimal_j2t x s)
    · refine ev_neg d ?_
      by_cases e : (x.size : Int) > 1
      · rw [if_pos (.inr (.inr ⟨by rw [hh, c], .inr (by omega)⟩)), show decide ((x.size : Int) > 1) = true from decide_eq_true e]
        exact impl_readDecimal_j2t x s
      · rw [show decide ((x.size : Int) > 1) = false from decide_eq_false e, if_neg (by omega)]
        exact hj
  · refine ev_neg c ?_
    rw [if_neg (by rintro (h | h | ⟨h, _⟩); omega; omega; rw [hh] at h; exact c (Option.some.inj h))]
    exact hj
theorem impl_readDecimal_ev (s : ByteArray) (hs : s.size ≤ 4611686018427387904) : Ev (fun k => impl_readDecimal.f k s) (readD (bytesOf s)) := by
  have hl := bytesOf_length s
  unfold impl_readDecimal.f
  by_cases a : (s.size : Int) > 0
  · refine ev_pos a (ev_pos (by omega) ?_)
    have hh := bt_head (s := s) (by omega)
    by_cases b : bt s 0 = 45
    · have e : (bt s 0 == 45) = true := beq_iff_eq.2 b
      rw [e]
      refine Ev.step (fun k => impl_readDecimal.j0.eq_2 ..) (ev_pos rfl (ev_pos (by omega) ?_))
      have hx : bytesOf (s.extract 1 s.size) = (bytesOf s).tail := by
        rw [bo_ext, List.take_of_length_le (by omega), List.drop_one]
      have := impl_readDecimal_j1 s (s.extract 1 s.size) hs (by rw [ByteArray.size_extract]; omega)
      rw [hx] at this
      unfold readD
      rw [if_pos (by rw [hh, b])]
      exact this
    · have e : (bt s 0 == 45) = false := beq_eq_false_iff_ne.2 b
      rw [e]
      refine Ev.step (fun k => impl_readDecimal.j0.eq_2 ..) (ev_neg (by simp) ?_)
      have := impl_readDecimal_j1 s s hs (by omega)
      unfold readD
      rw [if_neg (by rw [hh]; intro h; exact b (Option.some.inj h))]
      exact this
  · refine ev_neg a (Ev.step (fun k => impl_readDecimal.j0.eq_2 ..) (ev_neg (by simp) ?_))
    have := impl_readDecimal_j1 s s hs (by omega)
    unfold readD
    have h0 : bytesOf s = [] := List.eq_nil_of_length_eq_zero (by omega)
    rw [if_neg (by rw [h0]; simp)]
    exact this
/-- It reads just what was written. -/
theorem dec_allDig (n : Nat) : allDig (dec n) = true := allDig_iff.2 (dec_dig n)
theorem dec_head45 (n : Nat) : (dec n).head? ≠ some 45 := by
  intro h
  have : (45 : Int) ∈ dec n := List.mem_of_mem_head? h
  have := dec_dig n 45 this
  unfold Dig at this; omega
theorem dec_head48 {n : Nat} (h : (dec n).head? = some 48) : n = 0 := by
  rcases Nat.eq_zero_or_pos n with g | g
  · exact g
  · exact absurd rfl (dec_head n g 48 h)
theorem readD_numL {n : Int} (h0 : -1000000000000000000 < n) (h1 : n < 1000000000000000000) : readD (numL n) = (n, true) := by
  unfold readD
  by_cases g : n < 0
  · rw [numL_neg g]
    have hl := dec_len_le' (n := -n) (k := 17) (by omega) (by omega)
    have hp := dec_len_pos (-n).toNat
    rw [if_pos (by rfl), List.tail_cons]
    unfold readD1
    rw [if_neg (by
      rintro (h | h | ⟨h, _⟩)
      · omega
      · omega
      · have := dec_head48 h; omega), if_pos (dec_allDig _), if_pos (by simp), val_dec]
    congr 1; omega
  · rw [numL_pos (by omega)]
    have hl := dec_len_le' (n := n) (k := 17) (by omega) (by omega)
    have hp := dec_len_pos n.toNat
    rw [if_neg (dec_head45 _)]
    unfold readD1
    rw [if_neg (by
      rintro (h | h | ⟨h, h'⟩)
      · omega
      · omega
      · have e := dec_head48 h
        have : (dec n.toNat).length = 1 := by rw [e, dec_small (by omega)]; rfl
        omega), if_pos (dec_allDig _), if_neg (by omega), val_dec]
    congr 1; omega
theorem readD_inv {l : List Int} {n : Int} (h : readD l = (n, true)) : l = numL n ∧ -1000000000000000000 < n ∧ n < 1000000000000000000 := by
  unfold readD at h
  by_cases g : l.head? = some 45
  · rw [if_pos g] at h
    obtain ⟨D, rfl⟩ : ∃ D, l = 45 :: D := by
      cases l with
      | nil => simp at g
      | cons c D => simp only [List.head?_cons, Option.some.injEq] at g; subst g; exact ⟨D, rfl⟩
    simp only [List.tail_cons] at h
    unfold readD1 at h
    split at h
    · simp at h
    · rename_i h1
      split at h
      · rename_i h2
        have hD : D ≠ [] := by intro e; subst e; simp at h1
        have hd := allDig_iff.1 h2
        have h48 : D.head? ≠ some 48 := fun e => h1 (.inr (.inr ⟨e, .inr (by
          have : 1 ≤ D.length := by cases D with | nil => exact absurd rfl hD | cons => simp
          simp; omega)⟩))
        have hv := dec_val D hd hD (fun e => absurd e h48)
        have hlt := val_lt D hd
        have hpos : 1 ≤ val D := by
          rcases Int.lt_or_le (val D) 1 with q | q
          · have e0 : val D = 0 := by omega
            have := hv.1
            rw [e0] at this
            rw [← this] at h48
            exact absurd (by rw [Int.toNat_zero, dec_small (by omega)]; rfl) h48
          · exact q
        rw [if_pos (by simp)] at h
        have e : -(val D) = n := (Prod.mk.inj h).1
        have hp : (10 : Int) ^ D.length ≤ 10 ^ 18 := by
          have h18 : D.length ≤ 18 := by
            rcases Nat.lt_or_ge 18 D.length with q | q
            · exact absurd (.inr (.inl q)) h1
            · exact q
          have := Nat.pow_le_pow_right (show 0 < 10 by omega) h18
          have e1 := pow_int D.length
          have e2 := pow_int 18
          omega
        refine ⟨?_, by omega, by omega⟩
        rw [numL_neg (by omega), show -n = val D by omega, hv.1]
      · simp at h
  · rw [if_neg g] at h
    unfold readD1 at h
    split at h
    · simp at h
    · rename_i h1
      split at h
      · rename_i h2
        have hD : l ≠ [] := by intro e; subst e; simp at h1
        have hd := allDig_iff.1 h2
        have hv := dec_val l hd hD (fun e => by
          rcases Nat.lt_or_ge 1 l.length with q | q
          · exact absurd (.inr (.inr ⟨e, .inl q⟩)) h1
          · have : 1 ≤ l.length := by cases l with | nil => exact absurd rfl hD | cons => simp
            omega)
        have hlt := val_lt l hd
        rw [if_neg (by omega)] at h
        have e : val l = n := (Prod.mk.inj h).1
        have hp : (10 : Int) ^ l.length ≤ 10 ^ 18 := by
          have h18 : l.length ≤ 18 := by
            rcases Nat.lt_or_ge 18 l.length with q | q
            · exact absurd (.inr (.inl q)) h1
            · exact q
          have := Nat.pow_le_pow_right (show 0 < 10 by omega) h18
          have e1 := pow_int l.length
          have e2 := pow_int 18
          omega
        refine ⟨?_, by omega, by omega⟩
        rw [numL_pos (by omega), ← e, hv.1]
      · simp at h
theorem readD1_not {D l : List Int} (h : (readD1 D l).2 = false) : readD1 D l = (0, false) := by
  unfold readD1 at h ⊢
  split
  · rfl
  · rename_i h1
    rw [if_neg h1] at h
    split
    · rename_i h2
      rw [if_pos h2] at h; simp at h
    · rfl
theorem readD_not {l : List Int} (h : (readD l).2 = false) : readD l = (0, false) := by
  unfold readD at h ⊢
  split
  · rename_i h1
    rw [if_pos h1] at h
    exact readD1_not h
  · rename_i h1
    rw [if_neg h1] at h
    exact readD1_not h

def valueL (l : List Int) : Int × Bool := if l.length < 1 ∨ l.length > 13 then (0, false) else if allDig l = true then (val l, decide (dec (val l).toNat = l)) else (0, false)
def signedL (l : List Int) : Int × Bool := if l.head? = some 45 then (-(valueL l.tail).1, (valueL l.tail).2 && decide ((valueL l.tail).1 > 0)) else valueL l
theorem foldV_val : ∀ (l : List Int) (v : Int), foldV v l = v * 10 ^ l.length + val l
  | [], v => by simp [foldV, val]
  | c :: l, v => by
    rw [foldV_cons, foldV_val l, ← foldV_zero (c :: l), foldV_cons, foldV_val l, List.length_cons, Int.pow_succ]
    grind
theorem spec_l01Value_l0 (s : ByteArray) (hs : s.size ≤ 13) (hz : ∀ c ∈ bytesOf s, byte c) : ∀ (R : List Int) (i : Nat) (v : Int), (bytesOf s).drop i = R → i ≤ s.size → 0 ≤ v → v < 10 ^ i →
    Ev (fun k => spec_l01Value.l0 k s v i) (if allDig R = true then (foldV v R, decide (dec (foldV v R).toNat = bytesOf s)) else (0, false)) := by
  intro R
  induction R with
  | nil =>
    intro i v h hi v0 v1
    have h1 := bo_drop_nil h
    have hp : (10 : Int) ^ i ≤ 10 ^ 13 := by
      have := Nat.pow_le_pow_right (show 0 < 10 by omega) (show i ≤ 13 by omega)
      have e1 := pow_int i
      have e2 := pow_int 13
      omega
    obtain ⟨r, hr, e⟩ := spec_l01Dec_ev (n := v) v0 (by omega)
    refine Ev.step (fun k => spec_l01Value.l0.eq_2 ..) (ev_neg (by omega) (hr.bind (ev_ret ?_)))
    rw [if_pos (show allDig [] = true from rfl)]
    show (v, r.toList == s.toList) = (v, decide (dec v.toNat = bytesOf s))
    congr 1
    rw [Bool.eq_iff_iff, beq_iff_eq, toList_eq, decide_eq_true_eq, bo_eq, e]
  | cons c R ih =>
    intro i v h hi v0 v1
    obtain ⟨h1, h2, h3⟩ := bt_drop h
    have hp : (10 : Int) ^ i ≤ 10 ^ 13 := by
      have := Nat.pow_le_pow_right (show 0 < 10 by omega) (show i ≤ 13 by omega)
      have e1 := pow_int i
      have e2 := pow_int 13
      omega
    refine Ev.step (fun k => spec_l01Value.l0.eq_2 ..) (ev_pos (by omega) (ev_pos (by omega) ?_))
    rw [h2]
    by_cases a : c < 48
    · exact ev_pos a (ev_ret (by rw [allDig_cons]; simp [dig_lo a]))
    · refine ev_neg a ?_
      by_cases b : c > 57
      · exact ev_pos b (ev_ret (by rw [allDig_cons]; simp [dig_hi b]))
      · refine ev_neg b ?_
        have hd := dig_in a b
        rw [val_take_step hd v0 (by omega), w64 (n := (i : Int) + 1) (by omega) (by omega)]
        have := ih (i + 1) (10 * v + (c - 48)) h3 (by omega) (by unfold Dig at hd; omega) (by unfold Dig at hd; rw [Int.pow_succ]; omega)
        rw [allDig_cons, foldV_cons]
        simp only [hd, decide_true, Bool.true_and]
        exact this
theorem spec_l01Value_ev (s : ByteArray) : Ev (fun k => spec_l01Value.f k s) (valueL (bytesOf s)) := by
  have hl := bytesOf_length s
  unfold spec_l01Value.f valueL
  by_cases a : (s.size : Int) < 1
  · rw [if_pos (.inl (by omega))]
    exact ev_pos a (Ev.step (fun k => spec_l01Value.j0.eq_2 ..) (ev_pos rfl (Ev.now _)))
  · refine ev_neg a (Ev.step (fun k => spec_l01Value.j0.eq_2 ..) ?_)
    by_cases b : (s.size : Int) > 13
    · rw [if_pos (.inr (by omega))]
      exact ev_pos (by simpa using b) (Ev.now _)
    · rw [if_neg (by omega)]
      exact ev_neg (by simpa using b) (spec_l01Value_l0 s (by omega) (bo_byte s) (bytesOf s) 0 0 rfl (by omega) (by omega) (by decide))
theorem valueL_bound (l : List Int) : 0 ≤ (valueL l).1 ∧ (valueL l).1 < 10000000000000 := by
  unfold valueL
  split
  · simp
  · rename_i h
    split
    · rename_i h2
      have := val_lt l (allDig_iff.1 h2)
      have hp : (10 : Int) ^ l.length ≤ 10 ^ 13 := by
        have := Nat.pow_le_pow_right (show 0 < 10 by omega) (show l.length ≤ 13 by omega)
        have e1 := pow_int l.length
        have e2 := pow_int 13
        omega
      exact ⟨this.1, by show val l < _; omega⟩
    · simp
theorem spec_l01Signed_ev (s : ByteArray) (hs : s.size ≤ 4611686018427387904) : Ev (fun k => spec_l01Signed.f k s) (signedL (bytesOf s)) := by
  have hl := bytesOf_length s
  unfold spec_l01Signed.f signedL
  by_cases a : (s.size : Int) > 0
  · refine ev_pos a (ev_pos (by omega) ?_)
    have hh := bt_head (s := s) (by omega)
    by_cases b : bt s 0 = 45
    · have e : (bt s 0 == 45) = true := beq_iff_eq.2 b
      rw [e, if_pos (by rw [hh, b])]
      refine Ev.step (fun k => spec_l01Signed.j0.eq_2 ..) (ev_pos rfl (ev_pos (by omega) ?_))
      have hx : bytesOf (s.extract 1 s.size) = (bytesOf s).tail := by
        rw [bo_ext, List.take_of_length_le (by omega), List.drop_one]
      have hv := spec_l01Value_ev (s.extract 1 s.size)
      rw [hx] at hv
      have hb := valueL_bound (bytesOf s).tail
      refine hv.bind ?_
      rw [w64 (by omega) (by omega)]
      by_cases c : (valueL (bytesOf s).tail).2 = true
      · exact ev_pos c (ev_ret (by rw [c, Bool.true_and]))
      · exact ev_neg c (ev_ret (by rw [Bool.eq_false_iff.2 c, Bool.false_and]))
    · have e : (bt s 0 == 45) = false := beq_eq_false_iff_ne.2 b
      rw [e, if_neg (by rw [hh]; intro h; exact b (Option.some.inj h))]
      exact Ev.step (fun k => spec_l01Signed.j0.eq_2 ..) (ev_neg (by simp) ((spec_l01Value_ev s).bind (Ev.now _)))
  · have h0 : bytesOf s = [] := List.eq_nil_of_length_eq_zero (by omega)
    rw [if_neg (by rw [h0]; simp)]
    exact ev_neg a (Ev.step (fun k => spec_l01Signed.j0.eq_2 ..) (ev_neg (by simp) ((spec_l01Value_ev s).bind (Ev.now _))))
theorem valueL_dec {n : Int} (h0 : 0 ≤ n) (h1 : n < 10000000000000) : valueL (dec n.toNat) = (n, true) := by
  have hl := dec_len_le' (n := n) (k := 12) h0 (by omega)
  have hp := dec_len_pos n.toNat
  unfold valueL
  rw [if_neg (by omega), if_pos (dec_allDig _), val_dec, show ((n.toNat : Nat) : Int) = n by omega]
  simp
theorem valueL_inv {l : List Int} {n : Int} (h : valueL l = (n, true)) : l = dec n.toNat ∧ 0 ≤ n ∧ n < 10000000000000 := by
  have hb := valueL_bound l
  rw [h] at hb
  unfold valueL at h
  split at h
  · simp at h
  · split at h
    · simp only [Prod.mk.injEq, decide_eq_true_eq] at h
      rw [← h.1]
      exact ⟨h.2.symm, by have := h.1; omega, by have := h.1; omega⟩
    · simp at h
theorem signedL_num {n : Int} (h0 : -10000000000000 < n) (h1 : n < 10000000000000) : signedL (numL n) = (n, true) := by
  unfold signedL
  by_cases g : n < 0
  · rw [numL_neg g, if_pos (by rfl), List.tail_cons, valueL_dec (by omega) (by omega)]
    simp; omega
  · rw [numL_pos (by omega), if_neg (dec_head45 _), valueL_dec (by omega) (by omega)]
theorem signedL_inv {l : List Int} {n : Int} (h : signedL l = (n, true)) : l = numL n ∧ -10000000000000 < n ∧ n < 10000000000000 := by
  unfold signedL at h
  by_cases g : l.head? = some 45
  · rw [if_pos g] at h
    obtain ⟨D, rfl⟩ : ∃ D, l = 45 :: D := by
      cases l with
      | nil => simp at g
      | cons c D => simp only [List.head?_cons, Option.some.injEq] at g; subst g; exact ⟨D, rfl⟩
    simp only [List.tail_cons, Prod.mk.injEq, Bool.and_eq_true, decide_eq_true_eq] at h
    obtain ⟨h1, h2, h3⟩ := h
    have hv := valueL_inv (l := D) (n := (valueL D).1) (by rw [← h2])
    have h4 := of_decide_eq_true h3
    rw [numL_neg (show n < 0 by omega), show -n = (valueL D).1 by omega, ← hv.1]
    exact ⟨rfl, by omega, by omega⟩
  · rw [if_neg g] at h
    have hv := valueL_inv h
    rw [numL_pos hv.2.1]
    exact ⟨hv.1, by omega, by omega⟩
theorem valueL_of {l : List Int} (h : ∀ c ∈ l, Dig c) (h1 : 1 ≤ l.length) (h2 : l.length ≤ 13) (hz : l.head? = some 48 → l.length = 1) : valueL l = (val l, true) := by
  unfold valueL
  rw [if_neg (by omega), if_pos (allDig_iff.2 h), decide_eq_true (dec_val l h (by intro e; subst e; simp at h1) hz).1]

/-! ### splitting -/
def splB (b : Int) (s : ByteArray) : List ByteArray := (spl b [] (bytesOf s)).map strOfNums
theorem cur_ext (s : ByteArray) (f i : Nat) : strOfNums (((bytesOf s).take i).drop f) = s.extract f i := by
  rw [← bo_ext, of_bo]
theorem spl_len (b : Int) : ∀ (l cur : List Int), (spl b cur l).length ≤ l.length + 1
  | [], cur => by simp [spl]
  | c :: l, cur => by
    unfold spl
    split
    · have := spl_len b l []
      simp only [List.length_cons]; omega
    · have := spl_len b l (cur ++ [c])
      simp only [List.length_cons]; omega
theorem impl_splitAt_l0 (s : ByteArray) (b : Int) (hs : s.size ≤ 1000000) : ∀ (R : List Int) (i f : Nat) (out : List ByteArray), (bytesOf s).drop i = R → i ≤ s.size → f ≤ i → out.length ≤ i →
    Ev (fun k => impl_splitAt.l0 k s b out f i) (out ++ (spl b (((bytesOf s).take i).drop f) R).map strOfNums) := by
  intro R
  induction R with
  | nil =>
    intro i f out h hi hf ho
    have h1 := bo_drop_nil h
    refine Ev.step (fun k => impl_splitAt.l0.eq_2 ..) (ev_neg (by omega) (ev_pos (by omega) (ev_pos (by omega) (ev_pos (by omega) (ev_ret ?_)))))
    rw [spl.eq_1, List.map_singleton, cur_ext, Int.toNat_natCast, show i = s.size by omega]
  | cons c R ih =>
    intro i f out h hi hf ho
    obtain ⟨h1, h2, h3⟩ := bt_drop h
    refine Ev.step (fun k => impl_splitAt.l0.eq_2 ..) (ev_pos (by omega) (ev_pos (by omega) ?_))
    rw [h2, w64 (n := (i : Int) + 1) (by omega) (by omega), spl.eq_2]
    by_cases a : c = b
    · refine ev_pos a (ev_pos (by omega) (ev_pos (by omega) (ev_pos (by omega) (ev_pos (by omega) ?_))))
      rw [if_pos a, List.map_cons, cur_ext]
      have := ih (i + 1) (i + 1) (out ++ [s.extract f i]) h3 (by omega) (by omega) (by simp; omega)
      rw [List.drop_eq_nil_of_le (by rw [List.length_take]; omega), List.append_assoc] at this
      exact this
    · refine ev_neg a ?_
      rw [if_neg a]
      have := ih (i + 1) f out h3 (by omega) (by omega) (by omega)
      rw [snoc_take h, List.drop_append_of_le_length (by rw [List.length_take, bytesOf_length]; omega)] at this
      exact this
theorem impl_splitAt_ev (s : ByteArray) (b : Int) (hs : s.size ≤ 1000000) : Ev (fun k => impl_splitAt.f k s b) (splB b s) := by
  have := impl_splitAt_l0 s b hs (bytesOf s) 0 0 [] rfl (by omega) (by omega) (by simp)
  have h : Ev (fun k => impl_splitAt.l0 k s b [] 0 0) (splB b s) := by simpa [splB] using this
  exact h
theorem spec_l01Split_end (s : ByteArray) (b : Int) (out : List ByteArray) (hs : s.size ≤ 1000000) : Ev (fun k => spec_l01Split.l0 k s b out ((s.size + 1 : Nat) : Int) ((s.size + 1 : Nat) : Int)) out :=
  Ev.step (fun k => spec_l01Split.l0.eq_2 ..) (ev_neg (by omega) (Ev.now _))
theorem spec_l01Split_l0 (s : ByteArray) (b : Int) (hs : s.size ≤ 1000000) : ∀ (R : List Int) (i f : Nat) (out : List ByteArray), (bytesOf s).drop i = R → i ≤ s.size → f ≤ i → out.length ≤ i →
    Ev (fun k => spec_l01Split.l0 k s b out f i) (out ++ (spl b (((bytesOf s).take i).drop f) R).map strOfNums) := by
  intro R
  induction R with
  | nil =>
    intro i f out h hi hf ho
    have h1 := bo_drop_nil h
    refine Ev.step (fun k => spec_l01Split.l0.eq_2 ..) (ev_pos (by omega) (ev_pos (by omega) (ev_pos (by omega) (ev_pos (by omega) (ev_pos (by omega) ?_)))))
    rw [spl.eq_1, List.map_singleton, cur_ext, w64 (n := (i : Int) + 1) (by omega) (by omega), show (i : Int) + 1 = ((s.size + 1 : Nat) : Int) by omega, Int.toNat_natCast, Int.toNat_natCast]
    exact spec_l01Split_end s b _ hs
  | cons c R ih =>
    intro i f out h hi hf ho
    obtain ⟨h1, h2, h3⟩ := bt_drop h
    refine Ev.step (fun k => spec_l01Split.l0.eq_2 ..) (ev_pos (by omega) (ev_neg (by omega) (ev_pos (by omega) (ev_pos (by omega) ?_))))
    rw [h2, w64 (n := (i : Int) + 1) (by omega) (by omega), spl.eq_2]
    by_cases a : c = b
    · refine ev_pos a (ev_pos (by omega) (ev_pos (by omega) (ev_pos (by omega) ?_)))
      rw [if_pos a, List.map_cons, cur_ext]
      have := ih (i + 1) (i + 1) (out ++ [s.extract f i]) h3 (by omega) (by omega) (by simp; omega)
      rw [List.drop_eq_nil_of_le (by rw [List.length_take]; omega), List.append_assoc] at this
      exact this
    · refine ev_neg a ?_
      rw [if_neg a]
      have := ih (i + 1) f out h3 (by omega) (by omega) (by omega)
      rw [snoc_take h, List.drop_append_of_le_length (by rw [List.length_take, bytesOf_length]; omega)] at this
      exact this
theorem spec_l01Split_ev (s : ByteArray) (b : Int) (hs : s.size ≤ 1000000) : Ev (fun k => spec_l01Split.f k s b) (splB b s) := by
  have := spec_l01Split_l0 s b hs (bytesOf s) 0 0 [] rfl (by omega) (by omega) (by simp)
  have h : Ev (fun k => spec_l01Split.l0 k s b [] 0 0) (splB b s) := by simpa [splB] using this
  exact h
theorem spl_byte (b : Int) : ∀ (l cur : List Int), (∀ c ∈ cur, byte c) → (∀ c ∈ l, byte c) → ∀ w ∈ spl b cur l, ∀ c ∈ w, byte c
  | [], cur, h, _, w, hw, c, hc => by
    simp only [spl, List.mem_singleton] at hw; subst hw; exact h c hc
  | d :: l, cur, h, k, w, hw, c, hc => by
    unfold spl at hw
    split at hw
    · rcases List.mem_cons.1 hw with rfl | hw
      · exact h c hc
      · exact spl_byte b l [] (by simp) (fun x hx => k x (by simp [hx])) w hw c hc
    · refine spl_byte b l _ ?_ (fun x hx => k x (by simp [hx])) w hw c hc
      intro x hx
      rcases List.mem_append.1 hx with hx | hx
      · exact h x hx
      · simp only [List.mem_singleton] at hx; subst hx; exact k x (by simp)
theorem splB_bo (b : Int) (s : ByteArray) : (splB b s).map bytesOf = spl b [] (bytesOf s) := by
  unfold splB
  rw [List.map_map]
  conv => rhs; rw [← List.map_id (spl b [] (bytesOf s))]
  apply List.map_congr_left
  intro w hw
  exact bo_of w (spl_byte b (bytesOf s) [] (by simp) (bo_byte s) w hw)
theorem splB_len (b : Int) (s : ByteArray) : (splB b s).length ≤ s.size + 1 := by
  unfold splB
  rw [List.length_map]
  have := spl_len b (bytesOf s) []
  rwa [bytesOf_length] at this
theorem spl_word_len (b : Int) : ∀ (l cur : List Int), ∀ w ∈ spl b cur l, w.length ≤ cur.length + l.length
  | [], cur, w, hw => by simp only [spl, List.mem_singleton] at hw; subst hw; simp
  | d :: l, cur, w, hw => by
    unfold spl at hw
    split at hw
    · rcases List.mem_cons.1 hw with rfl | hw
      · simp
      · have := spl_word_len b l [] w hw
        simp at this ⊢; omega
    · have := spl_word_len b l _ w hw
      simp at this ⊢; omega
theorem splB_size (b : Int) (s : ByteArray) : ∀ w ∈ splB b s, w.size ≤ s.size := by
  intro w hw
  have h1 : bytesOf w ∈ spl b [] (bytesOf s) := by rw [← splB_bo]; exact List.mem_map_of_mem hw
  have h2 := spl_word_len b (bytesOf s) [] _ h1
  rw [bytesOf_length, bytesOf_length] at h2
  simpa using h2

/-! ### lists of numbers, read -/
theorem isValue_eq (n : Int) : impl_isValue.f n = some (decide (-1000000000000 ≤ n ∧ n ≤ 1000000000000)) := by unfold impl_isValue.f; rw [within_eq]; rfl
theorem l01Is_eq (n : Int) : spec_l01Is.f n = some (decide (-1000000000000 ≤ n ∧ n ≤ 1000000000000)) := by unfold spec_l01Is.f; rw [in_eq]; rfl
/-- these words are these numbers' texts -/
def AreNums : List (List Int) → List Int → Prop
  | [], [] => True
  | w :: ws, n :: ns => w = numL n ∧ (-1000000000000 ≤ n ∧ n ≤ 1000000000000) ∧ AreNums ws ns
  | _, _ => False
theorem numL_inj {m n : Int} (hm : -1000000000000 ≤ m ∧ m ≤ 1000000000000) (hn : -1000000000000 ≤ n ∧ n ≤ 1000000000000) (h : numL m = numL n) : m = n := by
  have h1 := readD_numL (n := m) (by omega) (by omega)
  rw [h, readD_numL (n := n) (by omega) (by omega)] at h1
  exact (Prod.mk.inj h1).1.symm
theorem numL_inj' {m n : Int} (hm : -100000000000000 ≤ m ∧ m ≤ 100000000000000) (hn : -100000000000000 ≤ n ∧ n ≤ 100000000000000) (h : numL m = numL n) : m = n := by
  have h1 := readD_numL (n := m) (by omega) (by omega)
  rw [h, readD_numL (n := n) (by omega) (by omega)] at h1
  exact (Prod.mk.inj h1).1.symm
theorem map_numL_inj : ∀ (a b : List Int), (∀ n ∈ a, -100000000000000 ≤ n ∧ n ≤ 100000000000000) → (∀ n ∈ b, -100000000000000 ≤ n ∧ n ≤ 100000000000000) → a.map numL = b.map numL → a = b
  | [], [], _, _, _ => rfl
  | [], _ :: _, _, _, h => by simp at h
  | _ :: _, [], _, _, h => by simp at h
  | m :: a, n :: b, ha, hb, h => by
    rw [List.map_cons, List.map_cons, List.cons.injEq] at h
    rw [numL_inj' (ha m (by simp)) (hb n (by simp)) h.1, map_numL_inj a b (fun x hx => ha x (by simp [hx])) (fun x hx => hb x (by simp [hx])) h.2]
theorem areNums_uniq : ∀ (ws : List (List Int)) (a b : List Int), AreNums ws a → AreNums ws b → a = b
  | [], [], [], _, _ => rfl
  | w :: ws, m :: a, n :: b, ⟨h1, h2, h3⟩, ⟨k1, k2, k3⟩ => by rw [numL_inj h2 k2 (h1.symm.trans k1), areNums_uniq ws a b h3 k3]
  | [], _ :: _, _, h, _ => h.elim
  | [], [], _ :: _, _, k => k.elim
  | _ :: _, [], _, h, _ => h.elim
  | _ :: _, _ :: _, [], _, k => k.elim
theorem areNums_len : ∀ (ws : List (List Int)) (a : List Int), AreNums ws a → a.length = ws.length
  | [], [], _ => rfl
  | _ :: ws, _ :: a, ⟨_, _, h⟩ => by rw [List.length_cons, List.length_cons, areNums_len ws a h]
  | [], _ :: _, h => h.elim
  | _ :: _, [], h => h.elim
theorem areNums_val : ∀ (ws : List (List Int)) (a : List Int), AreNums ws a → ∀ n ∈ a, -1000000000000 ≤ n ∧ n ≤ 1000000000000
  | [], [], _, n, hn => by simp at hn
  | _ :: ws, m :: a, ⟨_, h1, h⟩, n, hn => by
    rcases List.mem_cons.1 hn with rfl | hn
    · exact h1
    · exact areNums_val ws a h n hn
  | [], _ :: _, h, _, _ => h.elim
  | _ :: _, [], h, _, _ => h.elim
theorem areNums_map : ∀ (a : List Int), (∀ n ∈ a, -1000000000000 ≤ n ∧ n ≤ 1000000000000) → AreNums (a.map numL) a
  | [], _ => trivial
  | n :: a, h => ⟨rfl, h n (by simp), areNums_map a (fun m hm => h m (by simp [hm]))⟩
theorem areNums_words : ∀ (ws : List (List Int)) (a : List Int), AreNums ws a → ws = a.map numL
  | [], [], _ => rfl
  | w :: ws, n :: a, ⟨h, _, k⟩ => by rw [List.map_cons, ← h, ← areNums_words ws a k]
  | [], _ :: _, h => h.elim
  | _ :: _, [], h => h.elim
/-- the loop over the words -/
theorem impl_ReadList_l0 (ws : List ByteArray) (hl : ws.length ≤ 1000001) (hz : ∀ w ∈ ws, w.size ≤ 1000000) : ∀ (R : List ByteArray) (i : Nat) (out : List Int), ws.drop i = R → out.length ≤ i →
    ∃ r, Ev (fun k => impl_ReadList.l0 k out ws (ws.length : Int) i) r ∧ ((∃ a, AreNums (R.map bytesOf) a ∧ r = (out ++ a, 0)) ∨ ((∀ a, ¬ AreNums (R.map bytesOf) a) ∧ r = ([], 6))) := by
  intro R
  induction R with
  | nil =>
    intro i out h ho
    have h1 := drop_nil h
    exact ⟨(out, 0), Ev.step (fun k => impl_ReadList.l0.eq_2 ..) (ev_neg (by omega) (Ev.now _)), .inl ⟨[], trivial, by simp⟩⟩
  | cons w R ih =>
    intro i out h ho
    obtain ⟨h1, h2, h3⟩ := rdOf_drop (d := ByteArray.empty) h
    have hw : w ∈ ws := by
      have : w ∈ ws.drop i := by rw [h]; simp
      exact List.mem_of_mem_drop this
    have hr := impl_readDecimal_ev w (by have := hz w hw; omega)
    by_cases a : (readD (bytesOf w)).2 = true
    · have e : readD (bytesOf w) = ((readD (bytesOf w)).1, true) := by rw [← a]
      have hi := readD_inv e
      by_cases b : -1000000000000 ≤ (readD (bytesOf w)).1 ∧ (readD (bytesOf w)).1 ≤ 1000000000000
      · obtain ⟨r, er, hrr⟩ := ih (i + 1) (out ++ [(readD (bytesOf w)).1]) h3 (by simp; omega)
        refine ⟨r, Ev.step (fun k => impl_ReadList.l0.eq_2 ..) (ev_pos (by omega) (ev_pos (by omega) (ev_pos (by omega) ?_))), ?_⟩
        · rw [h2, w64 (n := (i : Int) + 1) (by omega) (by omega)]
          exact hr.bind (ev_pos a (ev_bind0 (isValue_eq _) (ev_pos (by simpa using b) (ev_pos (by omega) er))))
        · rcases hrr with ⟨x, hx, rfl⟩ | ⟨hx, rfl⟩
          · exact .inl ⟨(readD (bytesOf w)).1 :: x, ⟨hi.1, b, hx⟩, by simp⟩
          · refine .inr ⟨fun x hx' => ?_, rfl⟩
            cases x with
            | nil => exact hx'
            | cons n x => exact hx x hx'.2.2
      · refine ⟨([], 6), Ev.step (fun k => impl_ReadList.l0.eq_2 ..) (ev_pos (by omega) (ev_pos (by omega) (ev_pos (by omega) ?_))), .inr ⟨fun x hx' => ?_, rfl⟩⟩
        · rw [h2]
          exact hr.bind (ev_pos a (ev_bind0 (isValue_eq _) (ev_neg (by simpa using b) (Ev.now _))))
        · cases x with
          | nil => exact hx'
          | cons n x =>
            obtain ⟨k1, k2, _⟩ := hx'
            have := readD_numL (n := n) (by omega) (by omega)
            rw [← k1] at this
            rw [this] at b
            exact b k2
    · refine ⟨([], 6), Ev.step (fun k => impl_ReadList.l0.eq_2 ..) (ev_pos (by omega) (ev_pos (by omega) (ev_pos (by omega) ?_))), .inr ⟨fun x hx' => ?_, rfl⟩⟩
      · rw [h2]
        exact hr.bind (ev_neg a (Ev.now _))
      · cases x with
        | nil => exact hx'
        | cons n x =>
          obtain ⟨k1, k2, _⟩ := hx'
          have := readD_numL (n := n) (by omega) (by omega)
          rw [← k1] at this
          rw [this] at a
          exact a rfl
/-- both answer this -/
def ReadLs (l : List Int) (r : List Int × Int) : Prop :=
  (l = [45] ∧ r = ([], 0)) ∨ (l ≠ [45] ∧ ((∃ a, (spl 44 [] l).length ≤ 60 ∧ AreNums (spl 44 [] l) a ∧ r = (a, 0)) ∨ ((∀ a, ¬ ((spl 44 [] l).length ≤ 60 ∧ AreNums (spl 44 [] l) a)) ∧ r = ([], 6))))
theorem readLs_uniq {l : List Int} {a b : List Int × Int} (h : ReadLs l a) (k : ReadLs l b) : a = b := by
  rcases h with ⟨h1, rfl⟩ | ⟨h1, h⟩ <;> rcases k with ⟨k1, rfl⟩ | ⟨k1, k⟩
  · rfl
  · exact absurd h1 k1
  · exact absurd k1 h1
  · rcases h with ⟨x, h2, h3, rfl⟩ | ⟨h2, rfl⟩ <;> rcases k with ⟨y, k2, k3, rfl⟩ | ⟨k2, rfl⟩
    · rw [areNums_uniq _ x y h3 k3]
    · exact absurd ⟨h2, h3⟩ (k2 x)
    · exact absurd ⟨k2, k3⟩ (h2 y)
    · rfl
theorem dash_iff (s : ByteArray) : s.toList = ([45] : List UInt8) ↔ bytesOf s = [45] := by
  constructor
  · intro h
    have e : s = ⟨#[45]⟩ := by
      apply toList_eq.1
      rw [h, ByteArray.toList_eq]
    rw [e]; rfl
  · intro h
    have e : s = ⟨#[45]⟩ := bo_inj (by rw [h]; rfl)
    rw [e, ByteArray.toList_eq]
theorem impl_ReadList_ev (s : ByteArray) (hs : s.size ≤ 1000000) : ∃ r, Ev (fun k => impl_ReadList.f k s) r ∧ ReadLs (bytesOf s) r := by
  unfold impl_ReadList.f
  by_cases a : s.toList = ([45] : List UInt8)
  · exact ⟨_, ev_pos a (Ev.now _), .inl ⟨(dash_iff s).1 a, rfl⟩⟩
  · have a' : bytesOf s ≠ [45] := fun h => a ((dash_iff s).2 h)
    have hl := splB_len 44 s
    have e := congrArg List.length (splB_bo 44 s)
    rw [List.length_map] at e
    by_cases b : ((splB 44 s).length : Int) > 60
    · refine ⟨_, ev_neg a ((impl_splitAt_ev s 44 hs).bind (ev_pos b (Ev.now _))), .inr ⟨a', .inr ⟨fun x hx => ?_, rfl⟩⟩⟩
      have := hx.1; omega
    · obtain ⟨r, hr, h⟩ := impl_ReadList_l0 (splB 44 s) (by omega) (fun w hw => by have := splB_size 44 s w hw; omega) (splB 44 s) 0 [] rfl (by simp)
      refine ⟨r, ev_neg a ((impl_splitAt_ev s 44 hs).bind (ev_neg b hr)), .inr ⟨a', ?_⟩⟩
      rw [splB_bo] at h
      rcases h with ⟨x, hx, rfl⟩ | ⟨hx, rfl⟩
      · exact .inl ⟨x, by omega, hx, by simp⟩
      · exact .inr ⟨fun x hx' => hx x hx'.2, rfl⟩
theorem spec_l01Numbers_l0 (ws : List ByteArray) (hl : ws.length ≤ 1000001) (hz : ∀ w ∈ ws, w.size ≤ 1000000) : ∀ (R : List ByteArray) (i : Nat) (out : List Int), ws.drop i = R → out.length ≤ i →
    ∃ r, Ev (fun k => spec_l01Numbers.l0 k ws out i) r ∧ ((∃ a, r = (out ++ a, true) ∧ a.length = R.length ∧ R.map bytesOf = a.map numL ∧ ∀ n ∈ a, -100000000000000 ≤ n ∧ n ≤ 100000000000000) ∨ (r = ([], false) ∧ ∀ a, ¬ AreNums (R.map bytesOf) a)) := by
  intro R
  induction R with
  | nil =>
    intro i out h ho
    have h1 := drop_nil h
    exact ⟨(out, true), Ev.step (fun k => spec_l01Numbers.l0.eq_2 ..) (ev_neg (by omega) (Ev.now _)), .inl ⟨[], by simp, rfl, rfl, by simp⟩⟩
  | cons w R ih =>
    intro i out h ho
    obtain ⟨h1, h2, h3⟩ := rdOf_drop (d := ByteArray.empty) h
    have hw : w ∈ ws := by
      have : w ∈ ws.drop i := by rw [h]; simp
      exact List.mem_of_mem_drop this
    have hr := spec_l01Signed_ev w (by have := hz w hw; omega)
    by_cases a : (signedL (bytesOf w)).2 = true
    · have e : signedL (bytesOf w) = ((signedL (bytesOf w)).1, true) := by rw [← a]
      have hi := signedL_inv e
      obtain ⟨r, er, hrr⟩ := ih (i + 1) (out ++ [(signedL (bytesOf w)).1]) h3 (by simp; omega)
      refine ⟨r, Ev.step (fun k => spec_l01Numbers.l0.eq_2 ..) (ev_pos (by omega) (ev_pos (by omega) ?_)), ?_⟩
      · rw [h2, w64 (n := (i : Int) + 1) (by omega) (by omega)]
        exact hr.bind (ev_pos a (ev_pos (by omega) er))
      · rcases hrr with ⟨x, rfl, hx, hx', hb⟩ | ⟨rfl, hx⟩
        · refine .inl ⟨(signedL (bytesOf w)).1 :: x, by simp, by simp [hx], by rw [List.map_cons, List.map_cons, hx', ← hi.1], fun n hn => ?_⟩
          rcases List.mem_cons.1 hn with rfl | hn
          · omega
          · exact hb n hn
        · refine .inr ⟨rfl, fun x hx' => ?_⟩
          cases x with
          | nil => exact hx'
          | cons n x => exact hx x hx'.2.2
    · refine ⟨([], false), Ev.step (fun k => spec_l01Numbers.l0.eq_2 ..) (ev_pos (by omega) (ev_pos (by omega) ?_)), .inr ⟨rfl, fun x hx' => ?_⟩⟩
      · rw [h2]
        exact hr.bind (ev_neg a (Ev.now _))
      · cases x with
        | nil => exact hx'
        | cons n x =>
          obtain ⟨k1, k2, _⟩ := hx'
          have := signedL_num (n := n) (by omega) (by omega)
          rw [← k1] at this
          rw [this] at a
          exact a rfl
def valuesM (l : List Int) : Int := if (∀ n ∈ l, -1000000000000 ≤ n ∧ n ≤ 1000000000000) then (if l.length > 60 then 3 else 0) else 2
theorem spec_l01Values_l0 (l : List Int) (hl : l.length ≤ 2000000) : ∀ (R : List Int) (i : Nat), l.drop i = R → Ev (fun k => spec_l01Values.l0 k l i) (if (∀ n ∈ R, -1000000000000 ≤ n ∧ n ≤ 1000000000000) then (if l.length > 60 then 3 else 0) else 2) := by
  intro R
  induction R with
  | nil =>
    intro i h
    have h1 := drop_nil h
    rw [if_pos (by simp)]
    refine Ev.step (fun k => spec_l01Values.l0.eq_2 ..) (ev_neg (by omega) ?_)
    by_cases a : (l.length : Int) > 60
    · have e : (if l.length > 60 then (3 : Int) else 0) = 3 := if_pos (by omega)
      rw [e]; exact ev_pos a (Ev.now _)
    · have e : (if l.length > 60 then (3 : Int) else 0) = 0 := if_neg (by omega)
      rw [e]; exact ev_neg a (Ev.now _)
  | cons n R ih =>
    intro i h
    obtain ⟨h1, h2, h3⟩ := rd_drop h
    refine Ev.step (fun k => spec_l01Values.l0.eq_2 ..) (ev_pos (by omega) (ev_pos (by omega) ?_))
    rw [h2, w64 (n := (i : Int) + 1) (by omega) (by omega)]
    refine ev_bind0 (l01Is_eq n) ?_
    by_cases a : -1000000000000 ≤ n ∧ n ≤ 1000000000000
    · refine ev_pos (by simpa using a) ?_
      have := ih (i + 1) h3
      have e : (∀ m ∈ n :: R, -1000000000000 ≤ m ∧ m ≤ 1000000000000) ↔ ∀ m ∈ R, -1000000000000 ≤ m ∧ m ≤ 1000000000000 := by simp [a]
      simp only [e]
      exact this
    · refine ev_neg (by simpa using a) ?_
      rw [if_neg (fun h => a (h n (by simp)))]
      exact Ev.now _
theorem spec_l01Values_ev (l : List Int) (hl : l.length ≤ 2000000) : Ev (fun k => spec_l01Values.f k l) (valuesM l) := spec_l01Values_l0 l hl l 0 rfl
theorem spec_ReadList_ev (s : ByteArray) (hs : s.size ≤ 1000000) : ∃ r, Ev (fun k => spec_ReadList.f k s) r ∧ ReadLs (bytesOf s) r := by
  unfold spec_ReadList.f
  by_cases a : s.toList = ([45] : List UInt8)
  · exact ⟨_, ev_pos a (Ev.now _), .inl ⟨(dash_iff s).1 a, rfl⟩⟩
  · have a' : bytesOf s ≠ [45] := fun h => a ((dash_iff s).2 h)
    have hl := splB_len 44 s
    obtain ⟨r, hr, h⟩ := spec_l01Numbers_l0 (splB 44 s) (by omega) (fun w hw => by have := splB_size 44 s w hw; omega) (splB 44 s) 0 [] rfl (by simp)
    have hr' : Ev (fun k => spec_l01Numbers.f k (splB 44 s)) r := hr
    rw [splB_bo] at h
    rcases h with ⟨x, rfl, hx, hw, hxb⟩ | ⟨rfl, hx⟩
    · have hv := spec_l01Values_ev x (by omega)
      have e := congrArg List.length hw
      rw [List.length_map] at e
      by_cases b : valuesM x = 0
      · refine ⟨(x, 0), ev_neg a ((spec_l01Split_ev s 44 hs).bind (hr'.bind (ev_pos rfl (hv.bind (ev_pos b (Ev.now _)))))), .inr ⟨a', .inl ⟨x, ?_, ?_, rfl⟩⟩⟩
        · unfold valuesM at b
          split at b
          · split at b <;> omega
          · omega
        · rw [hw]
          refine areNums_map x ?_
          unfold valuesM at b
          split at b
          · assumption
          · omega
      · refine ⟨([], 6), ev_neg a ((spec_l01Split_ev s 44 hs).bind (hr'.bind (ev_pos rfl (hv.bind (ev_neg b (Ev.now _)))))), .inr ⟨a', .inr ⟨fun y ⟨hy, hy'⟩ => b ?_, rfl⟩⟩⟩
        have hm := areNums_words _ _ hy'
        have hb := areNums_val _ _ hy'
        have hyx : x = y := map_numL_inj x y hxb (fun n hn => by have := hb n hn; omega) (hw.symm.trans hm)
        subst hyx
        unfold valuesM
        rw [if_pos hb, if_neg (by omega)]
    · exact ⟨([], 6), ev_neg a ((spec_l01Split_ev s 44 hs).bind (hr'.bind (ev_neg (by simp) (Ev.now _)))), .inr ⟨a', .inr ⟨fun x hx' => hx x hx'.2, rfl⟩⟩⟩
theorem ReadList_both (s : ByteArray) (hs : s.size ≤ 1000000) : ∃ r, Ev (fun k => impl_ReadList.f k s) r ∧ Ev (fun k => spec_ReadList.f k s) r ∧ ReadLs (bytesOf s) r := by
  obtain ⟨a, ha, ha'⟩ := impl_ReadList_ev s hs
  obtain ⟨b, hb, hb'⟩ := spec_ReadList_ev s hs
  obtain rfl := readLs_uniq ha' hb'
  exact ⟨a, ha, hb, ha'⟩

/-! ### lists of numbers, written -/
def Vals (l : List Int) : Prop := ∀ n ∈ l, -1000000000000 ≤ n ∧ n ≤ 1000000000000
def numsL (l : List Int) : List Int := if l = [] then [45] else joi 44 (l.map numL)
theorem impl_numbersText_l0 (l : List Int) (hl : l.length ≤ 1000000) (hv : Vals l) : ∀ (R : List Int) (i : Nat) (out : List ByteArray), l.drop i = R → out.length ≤ i → out.map bytesOf = (l.take i).map numL →
    ∃ r, Ev (fun k => impl_numbersText.l0 k out l (l.length : Int) i) r ∧ bytesOf r = joi 44 (l.map numL) := by
  intro R
  induction R with
  | nil =>
    intro i out h ho hm
    have h1 := drop_nil h
    have hz : ∀ w ∈ out, w.size ≤ 1000000 := by
      intro w hw
      have : bytesOf w ∈ out.map bytesOf := List.mem_map_of_mem hw
      rw [hm] at this
      obtain ⟨n, hn, e⟩ := List.mem_map.1 this
      have hb := hv n (List.mem_of_mem_take hn)
      have := numL_len (n := n) (by omega) (by omega)
      have e' := sz_bo e.symm
      omega
    have e := congrArg List.length hm
    simp only [List.length_map, List.length_take] at e
    obtain ⟨r, er, hr⟩ := impl_joinWith_ev out (by omega) hz
    refine ⟨r, Ev.step (fun k => impl_numbersText.l0.eq_2 ..) (ev_neg (by omega) (er.bind (Ev.now _))), ?_⟩
    rw [hr, hm, List.take_of_length_le h1]
  | cons n R ih =>
    intro i out h ho hm
    obtain ⟨h1, h2, h3⟩ := rd_drop h
    have hn : n ∈ l := by
      have : n ∈ l.drop i := by rw [h]; simp
      exact List.mem_of_mem_drop this
    have hb := hv n hn
    obtain ⟨t, et, ht⟩ := impl_decimal_ev (n := n) (by omega) (by omega)
    obtain ⟨r, er, hr⟩ := ih (i + 1) (out ++ [t]) h3 (by simp; omega) (by rw [List.map_append, hm, snoc_take h, List.map_append]; simp [ht])
    refine ⟨r, Ev.step (fun k => impl_numbersText.l0.eq_2 ..) (ev_pos (by omega) (ev_pos (by omega) (ev_pos (by omega) ?_))), hr⟩
    rw [h2, w64 (n := (i : Int) + 1) (by omega) (by omega)]
    exact et.bind (ev_pos (by omega) er)
theorem impl_numbersText_ev (l : List Int) (hl : l.length ≤ 1000000) (hv : Vals l) : ∃ r, Ev (fun k => impl_numbersText.f k l) r ∧ bytesOf r = joi 44 (l.map numL) :=
  impl_numbersText_l0 l hl hv l 0 [] rfl (by simp) (by simp)
theorem spec_l01Join_l0 (l : List Int) (hl : l.length ≤ 1000000) (hv : ∀ n ∈ l, -1000000000000000000 ≤ n ∧ n ≤ 1000000000000000000) : ∀ (R : List Int) (i : Nat) (A : ByteArray), l.drop i = R → A.size ≤ i * 2000000 →
    ∃ r, Ev (fun k => spec_l01Join.l0 k l ⟨#[44]⟩ A i) r ∧ bytesOf r = bytesOf A ++ joP i (R.map numL) := by
  intro R
  induction R with
  | nil =>
    intro i A h hA
    have := drop_nil h
    exact ⟨A, Ev.step (fun k => spec_l01Join.l0.eq_2 ..) (ev_neg (by omega) (Ev.now _)), by simp [joP_nil]⟩
  | cons n R ih =>
    intro i A h hA
    obtain ⟨h1, h2, h3⟩ := rd_drop h
    have hn : n ∈ l := by
      have : n ∈ l.drop i := by rw [h]; simp
      exact List.mem_of_mem_drop this
    have hb := hv n hn
    obtain ⟨w, ew, hw⟩ := spec_l01Number_ev (n := n) (by omega) (by omega)
    have hws : w.size ≤ 20 := by rw [sz_bo hw]; exact numL_len (n := n) (by omega) (by omega)
    cases i with
    | zero =>
      obtain ⟨r, er, hr⟩ := ih 1 (A ++ w) h3 (by rw [ByteArray.size_append]; omega)
      refine ⟨r, Ev.step (fun k => spec_l01Join.l0.eq_2 ..) (ev_pos (by omega) (ev_neg (by omega) (ev_pos (by omega) ?_))), ?_⟩
      · rw [h2, w64 (by omega) (by omega)]
        exact ew.bind (ev_pos (by omega) er)
      · rw [hr, bo_app, List.map_cons, joP_zero, List.append_assoc, hw]
    | succ i =>
      obtain ⟨r, er, hr⟩ := ih (i + 2) ((A ++ ⟨#[44]⟩) ++ w) h3 (by rw [ByteArray.size_append, ByteArray.size_append, sz_comma]; omega)
      refine ⟨r, Ev.step (fun k => spec_l01Join.l0.eq_2 ..) (ev_pos (by omega) (ev_pos (by omega) (ev_pos (by rw [sz_comma]; omega) (ev_pos (by omega) ?_)))), ?_⟩
      · rw [h2, w64 (n := ((i + 1 : Nat) : Int) + 1) (by omega) (by omega)]
        exact ew.bind (ev_pos (by rw [ByteArray.size_append, sz_comma]; omega) er)
      · rw [hr, bo_app, bo_app, bo_comma, List.map_cons, joP_succ, List.append_assoc, List.append_assoc, List.singleton_append, hw]
theorem spec_l01Join_ev (l : List Int) (hl : l.length ≤ 1000000) (hv : ∀ n ∈ l, -1000000000000000000 ≤ n ∧ n ≤ 1000000000000000000) : ∃ r, Ev (fun k => spec_l01Join.f k l ⟨#[44]⟩) r ∧ bytesOf r = joi 44 (l.map numL) := by
  obtain ⟨r, er, hr⟩ := spec_l01Join_l0 l hl hv l 0 ⟨#[]⟩ rfl (by have : (⟨#[]⟩ : ByteArray).size = 0 := rfl; omega)
  exact ⟨r, er, by rw [hr, bo_nil]; rfl⟩
theorem spec_l01Text_ev (l : List Int) (hl : l.length ≤ 1000000) (hv : ∀ n ∈ l, -1000000000000000000 ≤ n ∧ n ≤ 1000000000000000000) : ∃ r, Ev (fun k => spec_l01Text.f k l) r ∧ bytesOf r = numsL l := by
  unfold spec_l01Text.f numsL
  by_cases a : l = []
  · rw [if_pos a]; exact ⟨_, ev_pos (by simp [a]) (Ev.now _), rfl⟩
  · rw [if_neg a]
    obtain ⟨r, er, hr⟩ := spec_l01Join_ev l hl hv
    exact ⟨r, ev_neg (by have := List.length_pos_iff.2 a; omega) (er.bind (Ev.now _)), hr⟩
/-- the answer of ListText -/
def ListT (l : List Int) (r : ByteArray × Int) : Prop := (valuesM l ≠ 0 ∧ r = (⟨#[]⟩, valuesM l)) ∨ (valuesM l = 0 ∧ bytesOf r.1 = numsL l ∧ r.2 = 0)
theorem listT_uniq {l : List Int} {a b : ByteArray × Int} (h : ListT l a) (k : ListT l b) : a = b := by
  rcases h with ⟨h1, rfl⟩ | ⟨h1, h2, h3⟩ <;> rcases k with ⟨k1, rfl⟩ | ⟨k1, k2, k3⟩
  · rfl
  · exact absurd k1 h1
  · exact absurd h1 k1
  · obtain ⟨a1, a2⟩ := a; obtain ⟨b1, b2⟩ := b
    simp only at *
    rw [h3, k3, bo_inj (h2.trans k2.symm)]
theorem vals_of {l : List Int} (h : valuesM l = 0) : Vals l ∧ l.length ≤ 60 := by
  unfold valuesM at h
  split at h
  · split at h
    · omega
    · exact ⟨by assumption, by omega⟩
  · omega
theorem valuesM_of {l : List Int} (h : Vals l) (k : l.length ≤ 60) : valuesM l = 0 := by
  unfold valuesM
  have h' : ∀ n ∈ l, -1000000000000 ≤ n ∧ n ≤ 1000000000000 := h
  rw [if_pos h', if_neg (by omega)]
theorem spec_ListText_ev (l : List Int) (hl : l.length ≤ 1000000) : ∃ r, Ev (fun k => spec_ListText.f k l) r ∧ ListT l r := by
  have hv := spec_l01Values_ev l (by omega)
  by_cases a : valuesM l = 0
  · have hb := vals_of a
    obtain ⟨r, er, hr⟩ := spec_l01Text_ev l hl (fun n hn => by have := hb.1 n hn; omega)
    exact ⟨(r, 0), hv.bind (ev_pos a (er.bind (Ev.now _))), .inr ⟨a, hr, rfl⟩⟩
  · exact ⟨_, hv.bind (ev_neg a (Ev.now _)), .inl ⟨a, rfl⟩⟩
theorem impl_areValues_l0 (l : List Int) (hl : l.length ≤ 4611686018427387904) : ∀ (R : List Int) (i : Nat), l.drop i = R → Ev (fun k => impl_areValues.l0 k l (l.length : Int) i) (decide (∀ n ∈ R, -1000000000000 ≤ n ∧ n ≤ 1000000000000)) := by
  intro R
  induction R with
  | nil =>
    intro i h
    have := drop_nil h
    exact Ev.step (fun k => impl_areValues.l0.eq_2 ..) (ev_neg (by omega) (ev_ret (by simp)))
  | cons n R ih =>
    intro i h
    obtain ⟨h1, h2, h3⟩ := rd_drop h
    refine Ev.step (fun k => impl_areValues.l0.eq_2 ..) (ev_pos (by omega) (ev_pos (by omega) (ev_pos (by omega) ?_)))
    rw [h2, w64 (n := (i : Int) + 1) (by omega) (by omega)]
    refine ev_bind0 (isValue_eq n) ?_
    by_cases a : -1000000000000 ≤ n ∧ n ≤ 1000000000000
    · refine ev_pos (by simpa using a) ?_
      have := ih (i + 1) h3
      have e : (∀ m ∈ n :: R, -1000000000000 ≤ m ∧ m ≤ 1000000000000) ↔ ∀ m ∈ R, -1000000000000 ≤ m ∧ m ≤ 1000000000000 := by simp [a]
      rw [decide_eq_decide.2 e]
      exact this
    · exact ev_neg (by simpa using a) (ev_ret (by symm; exact decide_eq_false (fun h => a (h n (by simp)))))
theorem impl_areValues_ev (l : List Int) (hl : l.length ≤ 4611686018427387904) : Ev (fun k => impl_areValues.f k l) (decide (∀ n ∈ l, -1000000000000 ≤ n ∧ n ≤ 1000000000000)) := impl_areValues_l0 l hl l 0 rfl
theorem impl_ListText_ev (l : List Int) (hl : l.length ≤ 1000000) : ∃ r, Ev (fun k => impl_ListText.f k l) r ∧ ListT l r := by
  have hv := impl_areValues_ev l (by omega)
  by_cases a : ∀ n ∈ l, -1000000000000 ≤ n ∧ n ≤ 1000000000000
  · by_cases b : (l.length : Int) > 60
    · have e : valuesM l = 3 := by unfold valuesM; rw [if_pos a, if_pos (by omega)]
      exact ⟨_, hv.bind (ev_pos (by simpa using a) (ev_pos b (Ev.now _))), .inl ⟨by omega, by rw [e]⟩⟩
    · have e : valuesM l = 0 := valuesM_of a (by omega)
      by_cases c : l = []
      · exact ⟨_, hv.bind (ev_pos (by simpa using a) (ev_neg b (ev_pos (by simp [c]) (Ev.now _)))), .inr ⟨e, by unfold numsL; rw [if_pos c]; rfl, rfl⟩⟩
      · obtain ⟨r, er, hr⟩ := impl_numbersText_ev l hl a
        exact ⟨(r, 0), hv.bind (ev_pos (by simpa using a) (ev_neg b (ev_neg (by have := List.length_pos_iff.2 c; omega) (er.bind (Ev.now _))))), .inr ⟨e, by unfold numsL; rw [if_neg c]; exact hr, rfl⟩⟩
  · have e : valuesM l = 2 := by unfold valuesM; rw [if_neg a]
    exact ⟨_, hv.bind (ev_neg (by simpa using a) (Ev.now _)), .inl ⟨by omega, by rw [e]⟩⟩
theorem ListText_both (l : List Int) (hl : l.length ≤ 1000000) : ∃ r, Ev (fun k => impl_ListText.f k l) r ∧ Ev (fun k => spec_ListText.f k l) r ∧ ListT l r := by
  obtain ⟨a, ha, ha'⟩ := impl_ListText_ev l hl
  obtain ⟨b, hb, hb'⟩ := spec_ListText_ev l hl
  obtain rfl := listT_uniq ha' hb'
  exact ⟨a, ha, hb, ha'⟩
/-! #### there and back -/
theorem comma_numL (n : Int) : (44 : Int) ∉ numL n := by
  intro h
  by_cases a : n < 0
  · rw [numL_neg a] at h
    rcases List.mem_cons.1 h with h | h
    · omega
    · have := dec_dig _ _ h
      unfold Dig at this; omega
  · rw [numL_pos (by omega)] at h
    have := dec_dig _ _ h
    unfold Dig at this; omega
theorem numL_dash (n : Int) : numL n ≠ [45] := by
  intro h
  by_cases a : n < 0
  · rw [numL_neg a] at h
    exact dec_ne _ (by simpa using h)
  · rw [numL_pos (by omega)] at h
    have := dec_dig n.toNat 45 (by rw [h]; simp)
    unfold Dig at this; omega
theorem joi_dash {ws : List (List Int)} (h : ws ≠ []) (h44 : ∀ w ∈ ws, (44 : Int) ∉ w) (h45 : ∀ w ∈ ws, w ≠ [45]) : joi 44 ws ≠ [45] := by
  intro e
  have := spl_joi 44 ws h h44
  rw [e] at this
  have e2 : spl 44 [] [45] = [[45]] := by simp [spl]
  rw [e2] at this
  exact h45 [45] (by rw [← this]; simp) rfl
theorem numsL_read {s : List Int} {x : List Int} (h : ReadLs s (x, 0)) : numsL x = s ∧ Vals x ∧ x.length ≤ 60 := by
  rcases h with ⟨rfl, h⟩ | ⟨h1, ⟨a, h2, h3, h⟩ | ⟨_, h⟩⟩
  · obtain ⟨rfl, _⟩ := Prod.mk.inj h
    exact ⟨rfl, by intro n hn; simp at hn, by simp⟩
  · obtain ⟨rfl, _⟩ := Prod.mk.inj h
    have hw := areNums_words _ _ h3
    have hne : x ≠ [] := by
      rintro rfl
      exact spl_ne 44 s [] hw
    refine ⟨?_, areNums_val _ _ h3, by have := areNums_len _ _ h3; omega⟩
    unfold numsL
    rw [if_neg hne, ← hw, joi_spl]; rfl
  · have := (Prod.mk.inj h).2; omega
theorem read_numsL {l : List Int} (h : Vals l) (k : l.length ≤ 60) : ReadLs (numsL l) (l, 0) := by
  unfold numsL
  by_cases a : l = []
  · rw [if_pos a]; exact .inl ⟨rfl, by rw [a]⟩
  · rw [if_neg a]
    have hne : l.map numL ≠ [] := by simpa using a
    have h44 : ∀ w ∈ l.map numL, (44 : Int) ∉ w := by
      intro w hw
      obtain ⟨n, _, rfl⟩ := List.mem_map.1 hw
      exact comma_numL n
    have e := spl_joi 44 (l.map numL) hne h44
    refine .inr ⟨joi_dash hne h44 (fun w hw => by obtain ⟨n, _, rfl⟩ := List.mem_map.1 hw; exact numL_dash n), .inl ⟨l, ?_, ?_, rfl⟩⟩
    · rw [e, List.length_map]; exact k
    · rw [e]; exact areNums_map l h
theorem jr_len : ∀ (ws : List (List Int)), (∀ w ∈ ws, w.length ≤ 20) → (jr ws).length ≤ 21 * ws.length
  | [], _ => by simp [jr]
  | w :: ws, h => by
    have h1 := h w (by simp)
    have h2 := jr_len ws (fun v hv => h v (by simp [hv]))
    simp only [jr, List.length_cons, List.length_append]
    omega
theorem joi_len {ws : List (List Int)} (h : ∀ w ∈ ws, w.length ≤ 20) : (joi 44 ws).length ≤ 21 * ws.length := by
  cases ws with
  | nil => simp [joi]
  | cons w ws =>
    have h1 := h w (by simp)
    have h2 := jr_len ws (fun v hv => h v (by simp [hv]))
    rw [joi_jr]
    simp only [List.length_cons, List.length_append]
    omega
theorem numsL_len {l : List Int} (h : ∀ n ∈ l, -1000000000000000000 ≤ n ∧ n ≤ 1000000000000000000) : (numsL l).length ≤ 21 * l.length + 1 := by
  unfold numsL
  split
  · simp
  · have := joi_len (ws := l.map numL) (fun w hw => by obtain ⟨n, hn, rfl⟩ := List.mem_map.1 hw; exact numL_len (h n hn).1 (h n hn).2)
    rw [List.length_map] at this
    omega
theorem likeInts_l0 (l : List Int) (hl : l.length ≤ 4611686018427387904) : ∀ (R : List Int) (i : Nat), l.drop i = R → Ev (fun k => laws_likeInts.l0 k l l i) true := by
  intro R
  induction R with
  | nil =>
    intro i h
    have := drop_nil h
    exact Ev.step (fun k => laws_likeInts.l0.eq_2 ..) (ev_neg (by omega) (Ev.now _))
  | cons c R ih =>
    intro i h
    obtain ⟨h1, h2, h3⟩ := rd_drop h
    refine Ev.step (fun k => laws_likeInts.l0.eq_2 ..) (ev_pos (by omega) (ev_pos (by omega) (ev_pos (by omega) (ev_pos rfl ?_))))
    rw [w64 (n := (i : Int) + 1) (by omega) (by omega)]
    exact ih (i + 1) h3
theorem likeInts_ev (l : List Int) (hl : l.length ≤ 4611686018427387904) : Ev (fun k => laws_likeInts.f k l l) true := by
  have h := likeInts_l0 l hl l 0 rfl
  exact ev_pos rfl h
theorem readLs_len {l : List Int} {r : List Int × Int} (h : ReadLs l r) : r.1.length ≤ 60 := by
  rcases h with ⟨_, rfl⟩ | ⟨_, ⟨a, h1, h2, rfl⟩ | ⟨_, rfl⟩⟩
  · simp
  · have := areNums_len _ _ h2
    simp only; omega
  · simp
theorem readLs_or {l : List Int} {x : List Int} {n : Int} (h : ReadLs l (x, n)) : n = 0 ∨ n = 6 := by
  rcases h with ⟨_, h⟩ | ⟨_, ⟨a, _, _, h⟩ | ⟨_, h⟩⟩
  · exact .inl (Prod.mk.inj h).2
  · exact .inl (Prod.mk.inj h).2
  · exact .inr (Prod.mk.inj h).2

/-! ### numbers that follow from a code -/
def Code (c : List Int) : Prop := (∀ x ∈ c, 0 ≤ x ∧ x ≤ 255) ∧ c.length ≤ 5000
def Src (c : List Int) (a s : Int) : Prop := Code c ∧ (0 ≤ a ∧ a ≤ c.length) ∧ 0 ≤ s ∧ s < 2147483647
theorem rd_code {c : List Int} (h : Code c) {i : Int} (h0 : 0 ≤ i) (h1 : i < c.length) : 0 ≤ rd c i ∧ rd c i ≤ 255 := by
  unfold rd
  have hi : i.toNat < c.length := by omega
  rw [List.getD_eq_getElem?_getD, List.getElem?_eq_getElem hi]
  exact h.1 _ (List.getElem_mem hi)
theorem tmod_nn {a b : Int} (ha : 0 ≤ a) : Int.tmod a b = a % b := Int.tmod_eq_emod_of_nonneg ha
theorem tmod_in {a b : Int} (ha : 0 ≤ a) (hb : 0 < b) : 0 ≤ Int.tmod a b ∧ Int.tmod a b < b := by
  rw [tmod_nn ha]
  exact ⟨Int.emod_nonneg a (by omega), Int.emod_lt_of_pos a hb⟩
theorem l01Next_some {c : List Int} {a s n : Int} (h : Src c a s) (hn : n ≤ 4611686018427387904) : ∃ x a' s', spec_l01Next.f c a s n = some (x, a', s') ∧ Src c a' s' ∧ 0 ≤ x ∧ (1 ≤ n → x < n) ∧ (n ≤ 1 → x = 0) := by
  obtain ⟨hc, ⟨a0, a1⟩, s0, s1⟩ := h
  have hl := hc.2
  unfold spec_l01Next.f
  by_cases g : n ≤ 1
  · rw [if_pos g]
    exact ⟨0, a, s, rfl, ⟨hc, ⟨a0, a1⟩, s0, s1⟩, by omega, by omega, by omega⟩
  · rw [if_neg g]
    have e1 : wrap64 ((wrap64 (s * 48271)) + 29) = s * 48271 + 29 := by
      rw [w64 (n := s * 48271) (by omega) (by omega), w64 (by omega) (by omega)]
    have e2 := tmod_in (a := s * 48271 + 29) (b := 2147483647) (by omega) (by omega)
    rw [e1]
    generalize Int.tmod (s * 48271 + 29) 2147483647 = s' at *
    have e3 : wrap64 (Int.tdiv s' 31) = s' / 31 := by rw [Int.tdiv_eq_ediv_of_nonneg (by omega), w64 (by omega) (by omega)]
    rw [e3]
    by_cases g1 : a < (c.length : Int)
    · have hr := rd_code hc a0 g1
      rw [if_pos g1, if_pos a0, w64 (n := a + 1) (by omega) (by omega), w64 (n := a + 1 - 1) (by omega) (by omega), show a + 1 - 1 = a by omega, w64 (n := rd c a) (by omega) (by omega), w64 (n := s' / 31 + rd c a) (by omega) (by omega)]
      have t1 := tmod_in (a := rd c a) (b := n) (by omega) (by omega)
      have t2 := tmod_in (a := s' / 31 + rd c a) (b := n) (by omega) (by omega)
      have fin : Src c (a + 1) s' := ⟨hc, ⟨by omega, by omega⟩, e2⟩
      by_cases g2 : n ≤ 256
      · rw [if_pos g2]
        by_cases g3 : Int.tmod (a + 1) 2 = 0
        · rw [if_pos g3, if_pos a0, if_pos g1, if_neg (by omega)]
          exact ⟨_, _, _, rfl, fin, t1.1, fun _ => t1.2, by omega⟩
        · rw [if_neg g3, if_neg (by omega)]
          exact ⟨_, _, _, rfl, fin, t2.1, fun _ => t2.2, by omega⟩
      · rw [if_neg g2, if_neg (by omega)]
        exact ⟨_, _, _, rfl, fin, t2.1, fun _ => t2.2, by omega⟩
    · have t2 := tmod_in (a := s' / 31) (b := n) (by omega) (by omega)
      rw [if_neg g1, if_neg (by omega)]
      exact ⟨_, _, _, rfl, ⟨hc, ⟨a0, a1⟩, e2⟩, t2.1, fun _ => t2.2, by omega⟩
theorem l01Pick_some {c : List Int} {a s : Int} (h : Src c a s) {l : List Int} (hl : 1 ≤ l.length) (hl' : l.length ≤ 1000) : ∃ x a' s', spec_l01Pick.f c a s l = some (x, a', s') ∧ Src c a' s' ∧ x ∈ l := by
  obtain ⟨x, a', s', e, h', x0, x1, _⟩ := l01Next_some h (n := (l.length : Int)) (by omega)
  have x2 := x1 (by omega)
  unfold spec_l01Pick.f
  rw [e, Option.bind_some, if_pos x0, if_pos x2]
  refine ⟨_, _, _, rfl, h', ?_⟩
  unfold rd
  have hi : x.toNat < l.length := by omega
  rw [List.getD_eq_getElem?_getD, List.getElem?_eq_getElem hi]
  exact List.getElem_mem hi
theorem l01From_l0 {c : List Int} (hc : Code c) : ∀ (d : Nat) (i : Int) (s : Int), 64 - i = d → 0 ≤ i → 0 ≤ s → s < 2147483647 → ∃ s', Ev (fun k => spec_l01From.l0 k c i c 0 s) (c, 0, s') ∧ Src c 0 s' := by
  intro d
  have hl := hc.2
  induction d with
  | zero =>
    intro i s hd h0 s0 s1
    refine ⟨s, Ev.step (fun k => spec_l01From.l0.eq_2 ..) ?_, hc, ⟨by omega, by omega⟩, s0, s1⟩
    by_cases g : i < (c.length : Int)
    · exact ev_pos g (ev_neg (by omega) (Ev.now _))
    · exact ev_neg g (Ev.now _)
  | succ d ih =>
    intro i s hd h0 s0 s1
    by_cases g : i < (c.length : Int)
    · have hr := rd_code hc h0 g
      have e1 : wrap64 ((wrap64 (s * 83)) + (wrap64 (rd c i))) = s * 83 + rd c i := by
        rw [w64 (n := s * 83) (by omega) (by omega), w64 (n := rd c i) (by omega) (by omega), w64 (by omega) (by omega)]
      have e2 := tmod_in (a := s * 83 + rd c i) (b := 2147483647) (by omega) (by omega)
      obtain ⟨s', hs, h⟩ := ih (i + 1) (Int.tmod (s * 83 + rd c i) 2147483647) (by omega) (by omega) e2.1 e2.2
      refine ⟨s', Ev.step (fun k => spec_l01From.l0.eq_2 ..) (ev_pos g (ev_pos (by omega) (ev_pos h0 ?_))), h⟩
      rw [e1, w64 (by omega) (by omega)]
      exact hs
    · exact ⟨s, Ev.step (fun k => spec_l01From.l0.eq_2 ..) (ev_neg g (Ev.now _)), hc, ⟨by omega, by omega⟩, s0, s1⟩
theorem l01From_ev {c : List Int} (hc : Code c) : ∃ s, Ev (fun k => spec_l01From.f k c) (c, 0, s) ∧ Src c 0 s :=
  l01From_l0 hc 64 0 61043 (by omega) (by omega) (by omega) (by omega)
/-! ### dice -/
def Dice (c : List Int) (i h : Int) : Prop := Code c ∧ (0 ≤ i ∧ i ≤ c.length) ∧ 0 ≤ h ∧ h ≤ 18446744073709551615
theorem u64w (n : Int) : 0 ≤ IntKind.u64.wrap n ∧ IntKind.u64.wrap n ≤ 18446744073709551615 := by
  have e : IntKind.u64.wrap n = n % 18446744073709551616 := by rfl
  omega
theorem big_false {c : List Int} (h : ¬ (c.length : Int) > 4096) : laws_big.f c = some false := by unfold laws_big.f; simp; omega
theorem big_true {c : List Int} (h : (c.length : Int) > 4096) : laws_big.f c = some true := by unfold laws_big.f; simp; omega
theorem code_of {c : List Int} (h : ∀ x ∈ c, (Lit.int .u8 x).wf = true) (hl : ¬ (c.length : Int) > 4096) : Code c := ⟨fun x hx => bd8 (h x hx), by omega⟩

theorem l01Damage_some {c : List Int} {a s : Int} (h : Src c a s) {t : ByteArray} (ht : t.size ≤ 100000) : ∃ r a' s', spec_l01Damage.f c a s t = some (r, a', s') ∧ Src c a' s' ∧ r.size ≤ t.size + 1 := by
  unfold spec_l01Damage.f
  rw [w64 (n := (t.size : Int) + 1) (by omega) (by omega)]
  obtain ⟨k, a1, s1, e1, h1, k0, k1, _⟩ := l01Next_some h (n := (t.size : Int) + 1) (by omega)
  obtain ⟨m, a2, s2, e2, h2, m0, m1, _⟩ := l01Next_some h1 (n := 8) (by omega)
  have k2 := k1 (by omega)
  rw [e1, Option.bind_some, e2, Option.bind_some]
  dsimp only
  have z1 : (t.extract 0 k.toNat).size = k.toNat := by rw [ByteArray.size_extract]; omega
  have z2 : (t.extract k.toNat t.size).size = t.size - k.toNat := by rw [ByteArray.size_extract]; omega
  by_cases g0 : m = 0
  · rw [if_pos g0, if_pos k0, if_pos (by omega)]
    exact ⟨_, _, _, rfl, h2, by omega⟩
  · rw [if_neg g0]
    by_cases g1 : m = 1
    · rw [if_pos g1, if_pos k0, if_pos (by omega), Option.bind_some]
      obtain ⟨q, a3, s3, e3, h3, q0, q1, _⟩ := l01Next_some h2 (n := 8) (by omega)
      have q2 := q1 (by omega)
      rw [e3, Option.bind_some]
      dsimp only
      rw [if_pos q0, if_pos (by simpa using q2)]
      have z3 : (rdOf ByteArray.empty [(⟨#[48]⟩ : ByteArray), (⟨#[35]⟩ : ByteArray), (⟨#[46]⟩ : ByteArray), (⟨#[47]⟩ : ByteArray), (⟨#[32]⟩ : ByteArray), (⟨#[97]⟩ : ByteArray), (⟨#[45]⟩ : ByteArray), (⟨#[10]⟩ : ByteArray)] q).size = 1 := by
        unfold rdOf
        have : q.toNat = 0 ∨ q.toNat = 1 ∨ q.toNat = 2 ∨ q.toNat = 3 ∨ q.toNat = 4 ∨ q.toNat = 5 ∨ q.toNat = 6 ∨ q.toNat = 7 := by omega
        rcases this with e | e | e | e | e | e | e | e <;> rw [e] <;> rfl
      rw [if_pos (by omega), if_pos (by rw [ByteArray.size_append]; omega)]
      exact ⟨_, _, _, rfl, h3, by rw [ByteArray.size_append, ByteArray.size_append]; omega⟩
    · rw [if_neg g1]
      by_cases g2 : m = 2
      · rw [if_pos g2]
        by_cases g3 : k < (t.size : Int)
        · have z4 : (t.extract (k + 1).toNat t.size).size = t.size - (k + 1).toNat := by rw [ByteArray.size_extract]; omega
          rw [if_pos g3, if_pos k0, if_pos (by omega), w64 (n := k + 1) (by omega) (by omega), if_pos (by omega), if_pos (by omega), if_pos (by omega)]
          exact ⟨_, _, _, rfl, h2, by rw [ByteArray.size_append]; omega⟩
        · rw [if_neg g3]
          exact ⟨_, _, _, rfl, h2, by omega⟩
      · rw [if_neg g2]
        exact ⟨_, _, _, rfl, h2, by omega⟩

theorem l01DrawValue_some {c : List Int} {a s : Int} (h : Src c a s) : ∃ x a' s', spec_l01DrawValue.f c a s = some (x, a', s') ∧ Src c a' s' := by
  obtain ⟨x0, a0, s0, e0, h0, _⟩ := l01Next_some h (n := 10) (by omega)
  unfold spec_l01DrawValue.f
  rw [e0, Option.bind_some]
  by_cases g : x0 = 0
  · obtain ⟨x1, a1, s1, e1, h1, _⟩ := l01Pick_some h0 (l := [0, 1000000000000, 1000000000001, (-1000000000000), (-1000000000001), 1]) (by simp) (by simp)
    rw [if_pos g, e1]
    exact ⟨_, _, _, rfl, h1⟩
  · obtain ⟨x1, a1, s1, e1, h1, _⟩ := l01Next_some h0 (n := 41) (by omega)
    obtain ⟨x2, a2, s2, e2, h2, _⟩ := l01Next_some h1 (n := 2001) (by omega)
    obtain ⟨x3, a3, s3, e3, h3, _⟩ := l01Next_some h2 (n := 2000000001) (by omega)
    obtain ⟨x4, a4, s4, e4, h4, _⟩ := l01Pick_some h3 (l := [wrap64 (x1 - 20), wrap64 (x2 - 1000), wrap64 (x3 - 1000000000)]) (by simp) (by simp)
    rw [if_neg g]
    simp only [e1, e2, e3, e4, Option.bind_some]
    exact ⟨_, _, _, rfl, h4⟩
theorem l01DrawList_l0 {c : List Int} : ∀ (d : Nat) (out : List Int) (a s : Int), Src c a s → out.length + d ≤ 100 → ∃ x a' s', Ev (fun k => spec_l01DrawList.l0 k out (d : Int) c a s) (x, a', s') ∧ Src c a' s' ∧ x.length ≤ 100 := by
  intro d
  induction d with
  | zero =>
    intro out a s h ho
    obtain ⟨x0, a0, s0, e0, h0, _⟩ := l01Next_some h (n := 24) (by omega)
    by_cases g : x0 = 0
    · obtain ⟨x1, a1, s1, e1, h1, b1, c1, _⟩ := l01Next_some h0 (n := 2) (by omega)
      have c1 := c1 (by omega)
      refine ⟨List.replicate (60 + x1).toNat 0, a1, s1, Ev.step (fun k => spec_l01DrawList.l0.eq_2 ..) (ev_neg (by omega) (ev_bind0 e0 (ev_pos g (ev_bind0 e1 ?_)))), h1, by rw [List.length_replicate]; omega⟩
      dsimp only
      rw [w64 (n := 60 + x1) (by omega) (by omega)]
      exact ev_pos (by omega) (ev_pos (by omega) (Ev.now _))
    · exact ⟨_, _, _, Ev.step (fun k => spec_l01DrawList.l0.eq_2 ..) (ev_neg (by omega) (ev_bind0 e0 (ev_neg g (Ev.now _)))), h0, by omega⟩
  | succ d ih =>
    intro out a s h ho
    obtain ⟨x0, a0, s0, e0, h0, _⟩ := l01Next_some h (n := 200) (by omega)
    obtain ⟨x1, a1, s1, e1, h1⟩ := l01DrawValue_some h0
    obtain ⟨x2, a2, s2, e2, h2, _⟩ := l01Pick_some h1 (l := [wrap64 (x0 - 100), x1]) (by simp) (by simp)
    obtain ⟨x, a', s', e, h', hx⟩ := ih (out ++ [x2]) a2 s2 h2 (by simp; omega)
    refine ⟨x, a', s', Ev.step (fun k => spec_l01DrawList.l0.eq_2 ..) (ev_pos (by omega) (ev_bind0 e0 (ev_bind0 e1 (ev_bind0 e2 (ev_pos (by omega) ?_))))), h', hx⟩
    rw [w64 (by omega) (by omega), show ((d + 1 : Nat) : Int) - 1 = (d : Int) by omega]
    exact e
theorem l01DrawList_ev {c : List Int} {a s : Int} (h : Src c a s) : ∃ x a' s', Ev (fun k => spec_l01DrawList.f k c a s) (x, a', s') ∧ Src c a' s' ∧ x.length ≤ 100 := by
  obtain ⟨x0, a0, s0, e0, h0, b0, c0, _⟩ := l01Next_some h (n := 6) (by omega)
  have c0 := c0 (by omega)
  obtain ⟨x, a', s', e, h', hx⟩ := l01DrawList_l0 x0.toNat [] a0 s0 h0 (by simp; omega)
  refine ⟨x, a', s', ev_bind0 e0 ?_, h', hx⟩
  dsimp only
  rw [show x0 = ((x0.toNat : Nat) : Int) by omega]
  exact e

theorem DrawListText_ev {c : List Int} (hc : Code c) : ∃ x, Ev (fun k => spec_DrawListText.f k c) x ∧ x.length ≤ 100 := by
  obtain ⟨s, e, h⟩ := l01From_ev hc
  obtain ⟨x, a', s', e1, h1, hx⟩ := l01DrawList_ev h
  exact ⟨x, e.bind (e1.bind (Ev.now _)), hx⟩
theorem DrawReadList_l0 {c : List Int} : ∀ (d : Nat) (out : List Int) (a s : Int), Src c a s → out.length + d ≤ 100 → (∀ n ∈ out, -1000 ≤ n ∧ n ≤ 1000) → ∃ t, Ev (fun k => spec_DrawReadList.l0 k out (d : Int) c a s) t ∧ t.size ≤ 10000 := by
  intro d
  induction d with
  | zero =>
    intro out a s h ho hv
    obtain ⟨t, et, ht⟩ := spec_l01Text_ev out (by omega) (fun n hn => by have := hv n hn; omega)
    have hl := numsL_len (l := out) (fun n hn => by have := hv n hn; omega)
    have hs := sz_bo ht
    obtain ⟨x0, a0, s0, e0, h0, _⟩ := l01Next_some h (n := 3) (by omega)
    by_cases g : x0 = 0
    · obtain ⟨r, a5, s5, e5, h5, hr⟩ := l01Damage_some h0 (t := t) (by omega)
      exact ⟨r, Ev.step (fun k => spec_DrawReadList.l0.eq_2 ..) (ev_neg (by omega) (et.bind (ev_bind0 e0 (ev_pos g (ev_bind0 e5 (Ev.now _)))))), by omega⟩
    · exact ⟨t, Ev.step (fun k => spec_DrawReadList.l0.eq_2 ..) (ev_neg (by omega) (et.bind (ev_bind0 e0 (ev_neg g (Ev.now _))))), by omega⟩
  | succ d ih =>
    intro out a s h ho hv
    obtain ⟨x0, a0, s0, e0, h0, b0, c0, _⟩ := l01Next_some h (n := 200) (by omega)
    have c0 := c0 (by omega)
    obtain ⟨t, e, ht⟩ := ih (out ++ [x0 - 100]) a0 s0 h0 (by simp; omega) (by
      intro n hn
      rcases List.mem_append.1 hn with hn | hn
      · exact hv n hn
      · simp only [List.mem_singleton] at hn; omega)
    refine ⟨t, Ev.step (fun k => spec_DrawReadList.l0.eq_2 ..) (ev_pos (by omega) (ev_bind0 e0 (ev_pos (by omega) ?_))), ht⟩
    dsimp only
    rw [w64 (n := x0 - 100) (by omega) (by omega), w64 (by omega) (by omega), show ((d + 1 : Nat) : Int) - 1 = (d : Int) by omega]
    exact e
theorem DrawReadList_ev {c : List Int} (hc : Code c) : ∃ t, Ev (fun k => spec_DrawReadList.f k c) t ∧ t.size ≤ 10000 := by
  obtain ⟨s, e, h⟩ := l01From_ev hc
  obtain ⟨x0, a0, s0, e0, h0, b0, c0, _⟩ := l01Next_some h (n := 6) (by omega)
  have c0 := c0 (by omega)
  obtain ⟨t, e1, ht⟩ := DrawReadList_l0 x0.toNat [] a0 s0 h0 (by simp; omega) (by simp)
  refine ⟨t, e.bind (ev_bind0 e0 ?_), ht⟩
  dsimp only
  rw [show x0 = ((x0.toNat : Nat) : Int) by omega]
  exact e1
theorem main : laws_FnLists.Pure := by
  intro c _ _ hw
  apply Ev.rounds
  unfold laws_FnLists.f
  by_cases g : (c.length : Int) > 4096
  · exact ev_bind0 (big_true g) (ev_pos rfl (Ev.now _))
  refine ev_bind0 (big_false g) (ev_neg (by decide) ?_)
  have hc := code_of hw g
  obtain ⟨x, ex, hx⟩ := DrawListText_ev hc
  obtain ⟨s, es, hs⟩ := DrawReadList_ev hc
  obtain ⟨⟨t, bad⟩, a, b, hb⟩ := ListText_both x (by omega)
  obtain ⟨⟨y, one⟩, p, q, hq⟩ := ReadList_both s (by omega)
  have hy := readLs_len hq
  simp only at hy
  have hk := likeInts_ev y (by omega)
  refine ex.bind (a.bind (b.bind (es.bind (p.bind (q.bind (ev_pos rfl (ev_pos rfl (ev_pos rfl (hk.bind ?_)))))))))
  refine Ev.step (fun k => laws_FnLists.j0.eq_2 ..) (ev_neg (by simp) ?_)
  have back : Ev (fun k => laws_FnLists.j1 k x t bad) true := by
    refine Ev.step (fun k => laws_FnLists.j1.eq_2 ..) ?_
    rcases hb with ⟨h1, h⟩ | ⟨h1, h2, h3⟩
    · obtain ⟨rfl, rfl⟩ := Prod.mk.inj h
      exact ev_neg h1 (Ev.now _)
    · simp only at h2 h3
      subst h3
      have hv := vals_of h1
      have hl := numsL_len (l := x) (fun n hn => by have := hv.1 n hn; omega)
      have hz := sz_bo h2
      obtain ⟨r, p', _, hr⟩ := ReadList_both t (by omega)
      have e := read_numsL hv.1 hv.2
      rw [← h2] at e
      obtain rfl := readLs_uniq hr e
      exact ev_pos rfl (p'.bind (ev_pos rfl ((likeInts_ev x (by omega)).bind (Ev.now _))))
  dsimp only
  by_cases g0 : one = 0
  · subst g0
    have hr := numsL_read hq
    obtain ⟨⟨u, n⟩, eu, hu⟩ := impl_ListText_ev y (by omega)
    rcases hu with ⟨h1, h⟩ | ⟨h1, h2, h3⟩
    · exact absurd (valuesM_of hr.2.1 hr.2.2) h1
    · simp only at h2 h3
      subst h3
      exact ev_pos rfl (eu.bind (ev_pos rfl (ev_pos (toList_eq.2 (bo_inj (by rw [h2, hr.1]))) back)))
  · exact ev_neg g0 back

end Go.Proofs.Ytgcjjpaljfgiaaa.PureFnLists
namespace Go.Proofs.Ytgcjjpaljfgiaaa.Pure
theorem FnLists : QFnLists.laws_FnLists.Pure := PureFnLists.main
end Go.Proofs.Ytgcjjpaljfgiaaa.Pure
