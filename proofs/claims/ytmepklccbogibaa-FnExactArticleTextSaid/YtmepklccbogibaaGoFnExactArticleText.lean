/- ArticleText answers what the reference's answers, for all arguments; no condition. -/
import Derived.Test.YtmepklccbogibaaMa
import Derived.Test.YtmepklccbogibaaQFnExactArticleTextx
namespace Go.Proofs.Ytmepklccbogibaa.GoFnExactArticleText
open Go.RowKit Go.Proofs.Ytmepklccbogibaa.QFnExactArticleText Go.Proofs.YtmepklccbogibaaW.PrintWords Go.Proofs.YtmepklccbogibaaW.PrintLast Go.Proofs.Ytmepklccbogibaa.Ma
set_option linter.unusedVariables false
set_option linter.unusedSimpArgs false

/-! ### division, ranges -/
theorem in_eq (a b c : Int) : spec_l01In.f a b c = some (decide (b ≤ a ∧ a ≤ c)) := by
  unfold spec_l01In.f
  by_cases h : b ≤ a <;> simp [h]
theorem within_eq (a b c : Int) : impl_within.f a b c = some (decide (b ≤ a ∧ a ≤ c)) := by
  unfold impl_within.f
  by_cases h : b ≤ a <;> simp [h]
theorem tdiv_floor {a b : Int} (hb : 0 < b) : (Int.tmod a b < 0 → Int.tdiv a b - 1 = a / b) ∧ (¬ Int.tmod a b < 0 → Int.tdiv a b = a / b) := by
  have h1 := Int.tdiv_eq_ediv (a := a) (b := b)
  have h2 := Int.tmod_eq_emod (a := a) (b := b)
  have h3 := Int.emod_nonneg a (show b ≠ 0 by omega)
  have h4 := Int.emod_lt_of_pos a hb
  by_cases h : 0 ≤ a ∨ b ∣ a
  · rw [if_pos h] at h1 h2
    omega
  · rw [if_neg h] at h1 h2
    rw [Int.sign_eq_one_of_pos hb] at h1
    omega
theorem ediv_small {a b : Int} (hb : 0 < b) (h : -4611686018427387904 ≤ a) (h' : a ≤ 4611686018427387904) : -4611686018427387904 ≤ a / b ∧ a / b ≤ 4611686018427387904 := by
  have h1 : -4611686018427387904 * b ≤ a := by
    have := Int.mul_le_mul_of_nonneg_left (show 1 ≤ b by omega) (show (0 : Int) ≤ 4611686018427387904 by omega); omega
  have h2 : a < (4611686018427387904 + 1) * b := by
    have := Int.mul_le_mul_of_nonneg_left (show 1 ≤ b by omega) (show (0 : Int) ≤ 4611686018427387905 by omega); omega
  have h3 := (Int.le_ediv_iff_mul_le hb).2 h1
  have h4 := (Int.ediv_lt_iff_lt_mul hb).2 h2
  omega
/-! ### IsWord -/
def az (c : Int) : Bool := decide (97 ≤ c) && decide (c ≤ 122)
def wordL (l : List Int) : Bool := decide (1 ≤ l.length) && decide (l.length ≤ 16) && l.all az
theorem az_lo {c : Int} (h : c < 97) : az c = false := by unfold az; simp; omega
theorem az_hi {c : Int} (h : c > 122) : az c = false := by unfold az; simp; omega
theorem az_in {c : Int} (h : ¬ c < 97) (h' : ¬ c > 122) : az c = true := by unfold az; simp; omega
theorem spec_l01In_eq (a b c : Int) : spec_l01In.f a b c = some (decide (b ≤ a) && decide (a ≤ c)) := by
  unfold spec_l01In.f
  by_cases h : b ≤ a <;> simp [h]
theorem spec_IsWord_l0 (s : ByteArray) (hs : s.size ≤ 4611686018427387904) : ∀ (R : List Int) (i : Nat), (bytesOf s).drop i = R → i ≤ s.size → Ev (fun k => spec_IsWord.l0 k s i) (R.all az && (decide (1 ≤ (s.size : Int)) && decide ((s.size : Int) ≤ 16))) := by
  intro R
  induction R with
  | nil =>
    intro i h hi
    have := bo_drop_nil h
    refine Ev.step (fun k => spec_IsWord.l0.eq_2 ..) ?_
    refine ev_neg (by omega) (ev_bind0 (spec_l01In_eq ..) (ev_ret ?_))
    simp
  | cons c R ih =>
    intro i h hi
    obtain ⟨h1, h2, h3⟩ := bt_drop h
    refine Ev.step (fun k => spec_IsWord.l0.eq_2 ..) ?_
    refine ev_pos (by omega) (ev_pos (by omega) ?_)
    rw [h2, w64 (by omega) (by omega)]
    by_cases a : c < 97
    · exact ev_pos a (ev_ret (by simp [az_lo a]))
    · refine ev_neg a ?_
      by_cases b : c > 122
      · exact ev_pos b (ev_ret (by simp [az_hi b]))
      · refine ev_neg b ?_
        have := ih (i + 1) h3 (by omega)
        rw [List.all_cons, az_in a b, Bool.true_and]
        exact this
theorem spec_IsWord_ev (s : ByteArray) (hs : s.size ≤ 4611686018427387904) : Ev (fun k => spec_IsWord.f k s) (wordL (bytesOf s)) := by
  have h := spec_IsWord_l0 s hs (bytesOf s) 0 rfl (by omega)
  unfold spec_IsWord.f
  have e : wordL (bytesOf s) = ((bytesOf s).all az && (decide (1 ≤ (s.size : Int)) && decide ((s.size : Int) ≤ 16))) := by
    unfold wordL; rw [bytesOf_length, Bool.and_comm]
    congr 2 <;> exact decide_eq_decide.2 (by omega)
  rw [e]; exact h

theorem impl_IsWord_l0 (s : ByteArray) (hs : s.size ≤ 4611686018427387904) : ∀ (R : List Int) (i : Nat), (bytesOf s).drop i = R → i ≤ s.size → Ev (fun k => impl_IsWord.l0 k s i) (R.all az) := by
  intro R
  induction R with
  | nil =>
    intro i h hi
    have := bo_drop_nil h
    refine Ev.step (fun k => impl_IsWord.l0.eq_2 ..) ?_
    exact ev_neg (by omega) (ev_ret rfl)
  | cons c R ih =>
    intro i h hi
    obtain ⟨h1, h2, h3⟩ := bt_drop h
    refine Ev.step (fun k => impl_IsWord.l0.eq_2 ..) ?_
    refine ev_pos (by omega) (ev_pos (by omega) ?_)
    rw [h2, w64 (by omega) (by omega)]
    by_cases a : c < 97
    · exact ev_pos a (ev_ret (by simp [az_lo a]))
    · refine ev_neg a ?_
      by_cases b : c > 122
      · exact ev_pos b (ev_ret (by simp [az_hi b]))
      · refine ev_neg b ?_
        have := ih (i + 1) h3 (by omega)
        rw [List.all_cons, az_in a b, Bool.true_and]
        exact this
theorem impl_IsWord_ev (s : ByteArray) (hs : s.size ≤ 4611686018427387904) : Ev (fun k => impl_IsWord.f k s) (wordL (bytesOf s)) := by
  have h := impl_IsWord_l0 s hs (bytesOf s) 0 rfl (by omega)
  have hb := bytesOf_length s
  unfold impl_IsWord.f wordL
  by_cases a : (s.size : Int) < 1
  · refine ev_pos a (Ev.step (fun k => impl_IsWord.j0.eq_2 ..) (ev_pos rfl (ev_ret ?_)))
    simp; omega
  · refine ev_neg a (Ev.step (fun k => impl_IsWord.j0.eq_2 ..) ?_)
    by_cases b : (s.size : Int) > 16
    · refine ev_pos (by simpa using b) (ev_ret ?_)
      simp; omega
    · refine ev_neg (by simpa using b) ?_
      have e : (decide (1 ≤ (bytesOf s).length) && decide ((bytesOf s).length ≤ 16) && (bytesOf s).all az) = (bytesOf s).all az := by
        simp; intro _; omega
      rw [e]; exact h

/-! ### articles -/
theorem maxLen_eq : maxLen ≤ 9223372036854775807 := by unfold maxLen; decide
def ArtB (c : ByteArray) (kind cal lift spread shots gap net group : Int) : Bool :=
  wordL (bytesOf c) && decide (0 ≤ kind ∧ kind ≤ 3) && decide (20 ≤ cal ∧ cal ≤ 300) && decide (0 ≤ lift ∧ lift ≤ 10000) && decide (0 ≤ spread ∧ spread ≤ lift) &&
    decide (1 ≤ shots ∧ shots ≤ 50) && decide (0 ≤ gap ∧ gap ≤ 10000) && decide (1 ≤ net ∧ net ≤ 100000) && decide (0 ≤ group ∧ group ≤ 3)
theorem artB_true {c : ByteArray} {kind cal lift spread shots gap net group : Int} (h : ArtB c kind cal lift spread shots gap net group = true) :
    wordL (bytesOf c) = true ∧ (0 ≤ kind ∧ kind ≤ 3) ∧ (20 ≤ cal ∧ cal ≤ 300) ∧ (0 ≤ lift ∧ lift ≤ 10000) ∧ (0 ≤ spread ∧ spread ≤ lift) ∧ (1 ≤ shots ∧ shots ≤ 50) ∧ (0 ≤ gap ∧ gap ≤ 10000) ∧ (1 ≤ net ∧ net ≤ 100000) ∧ (0 ≤ group ∧ group ≤ 3) := by
  unfold ArtB at h
  simp only [Bool.and_eq_true, decide_eq_true_eq] at h
  obtain ⟨⟨⟨⟨⟨⟨⟨⟨h1, h2⟩, h3⟩, h4⟩, h5⟩, h6⟩, h7⟩, h8⟩, h9⟩ := h
  exact ⟨h1, h2, h3, h4, h5, h6, h7, h8, h9⟩
theorem impl_IsArticle_ev (c : ByteArray) (kind cal lift spread shots gap net group : Int) (hs : c.size ≤ 4611686018427387904) :
    Ev (fun k => impl_IsArticle.f k c kind cal lift spread shots gap net group) (ArtB c kind cal lift spread shots gap net group) := by
  unfold impl_IsArticle.f ArtB
  refine (impl_IsWord_ev c hs).bind ?_
  simp only [within_eq, Option.bind_some]
  by_cases h1 : wordL (bytesOf c) = true
  · refine ev_pos h1 ?_
    simp only [h1, Bool.true_and]
    refine ev_const ?_
    simp only [decide_eq_true_eq]
    repeat' split
    all_goals first | (simp_all; done) | (simp_all; intros; omega)
  · exact ev_neg h1 (ev_ret (by simp [h1]))
theorem spec_IsArticle_ev (c : ByteArray) (kind cal lift spread shots gap net group : Int) (hs : c.size ≤ 4611686018427387904) :
    Ev (fun k => spec_IsArticle.f k c kind cal lift spread shots gap net group) (ArtB c kind cal lift spread shots gap net group) := by
  unfold spec_IsArticle.f ArtB
  refine (spec_IsWord_ev c hs).bind ?_
  simp only [in_eq, Option.bind_some]
  by_cases h1 : wordL (bytesOf c) = true
  · refine ev_pos h1 ?_
    simp only [h1, Bool.true_and]
    refine ev_const ?_
    simp only [decide_eq_true_eq]
    repeat' split
    all_goals first | (simp_all; done) | (simp_all; intros; omega)
  · exact ev_neg h1 (ev_ret (by simp [h1]))
def lenM (c : ByteArray) (kind cal lift spread shots gap net group : Int) : Int × Int :=
  if ArtB c kind cal lift spread shots gap net group = true then (lift + spread + (shots - 1) * gap, 0) else (0, 1)
theorem gap_bound {shots gap : Int} (h : 1 ≤ shots ∧ shots ≤ 50) (k : 0 ≤ gap ∧ gap ≤ 10000) : 0 ≤ (shots - 1) * gap ∧ (shots - 1) * gap ≤ 490000 := by
  constructor
  · exact Int.mul_nonneg (by omega) k.1
  · have h1 := Int.mul_le_mul_of_nonneg_right (show shots - 1 ≤ 49 by omega) k.1
    omega
theorem sz_big {c : ByteArray} (kind cal lift spread shots gap net group : Int) (h : c.size ≤ maxLen) (h2 : 1000000 < c.size) : ∃ t, laws_szArticle.f c kind cal lift spread shots gap net group 1000000 = some t ∧ t < 0 := by
  have hm := maxLen_eq
  unfold laws_szArticle.f
  rw [w64 (by omega) (by omega), if_pos (by omega)]
  exact ⟨_, rfl, by omega⟩
theorem sz_small {c : ByteArray} (kind cal lift spread shots gap net group : Int) (h2 : c.size ≤ 1000000) : ∃ t, laws_szArticle.f c kind cal lift spread shots gap net group 1000000 = some t ∧ ¬ t < 0 := by
  unfold laws_szArticle.f
  rw [w64 (by omega) (by omega), if_neg (by omega)]
  exact ⟨_, rfl, by omega⟩

/-! ### numbers in decimal -/
def numL (n : Int) : List Int := if n < 0 then 45 :: dec (-n).toNat else dec n.toNat
theorem numL_pos {n : Int} (h : 0 ≤ n) : numL n = dec n.toNat := by unfold numL; rw [if_neg (by omega)]
theorem numL_neg {n : Int} (h : n < 0) : numL n = 45 :: dec (-n).toNat := by unfold numL; rw [if_pos h]
theorem sz_bo {s : ByteArray} {l : List Int} (h : bytesOf s = l) : s.size = l.length := by rw [← h, bytesOf_length]
theorem byte_dig {c : Int} (h : Dig c) : byte c := by unfold Dig at h; unfold byte; omega
theorem bo_one {c : Int} (h : byte c) : bytesOf (strOfNums [c]) = [c] := bo_of _ (fun x hx => by simp only [List.mem_singleton] at hx; subst hx; exact h)
theorem bo_lit (l : List UInt8) : bytesOf ⟨l.toArray⟩ = l.map fun b => (b.toNat : Int) := rfl
theorem pow_int (k : Nat) : ((10 ^ k : Nat) : Int) = (10 : Int) ^ k := by simp
theorem dec_len_le' {n : Int} {k : Nat} (h0 : 0 ≤ n) (h : n < 10 ^ (k + 1)) : (dec n.toNat).length ≤ k + 1 := by
  refine dec_len_le k n.toNat ?_
  have := pow_int (k + 1)
  omega
/-- the byte of the last digit -/
theorem dig_byte {n : Int} (h : 0 ≤ n) : (wrap64 (48 + (Int.tmod n 10))) % 256 = 48 + n % 10 := by
  rw [Int.tmod_eq_emod_of_nonneg h, w64 (by omega) (by omega)]; omega
theorem impl_decimal_l0 : ∀ (d : Nat) (n : Int) (x : ByteArray), 0 ≤ n → n < 10 ^ (d + 1) → n ≤ 9223372036854775807 → x.size + d ≤ 4611686018427387904 → ∃ r, Ev (fun k => impl_decimal.l0 k n x) r ∧ bytesOf r = dec n.toNat ++ bytesOf x := by
  intro d
  induction d with
  | zero =>
    intro n x h0 h1 h2 h3
    have hb : bytesOf (strOfNums [48 + n % 10]) = [48 + n % 10] := bo_one (by unfold byte; omega)
    have hs := sz_bo hb
    refine ⟨strOfNums [48 + n % 10] ++ x, Ev.step (fun k => impl_decimal.l0.eq_2 ..) (ev_bind0 rfl ?_), ?_⟩
    · rw [dig_byte h0, Int.tdiv_eq_ediv_of_nonneg h0, w64 (by omega) (by omega)]
      simp only [List.length_singleton] at hs
      exact ev_pos (by omega) (ev_pos (by omega) (Ev.now _))
    · rw [bo_app, hb, dec_small (by omega)]
      congr 2; omega
  | succ d ih =>
    intro n x h0 h1 h2 h3
    have hb : bytesOf (strOfNums [48 + n % 10]) = [48 + n % 10] := bo_one (by unfold byte; omega)
    have hs := sz_bo hb
    simp only [List.length_singleton] at hs
    by_cases g : n / 10 = 0
    · refine ⟨strOfNums [48 + n % 10] ++ x, Ev.step (fun k => impl_decimal.l0.eq_2 ..) (ev_bind0 rfl ?_), ?_⟩
      · rw [dig_byte h0, Int.tdiv_eq_ediv_of_nonneg h0, w64 (by omega) (by omega)]
        exact ev_pos (by omega) (ev_pos g (Ev.now _))
      · rw [bo_app, hb, dec_small (by omega)]
        congr 2; omega
    · obtain ⟨r, hr, e⟩ := ih (n / 10) (strOfNums [48 + n % 10] ++ x) (by omega) (by rw [Int.pow_succ] at h1; omega) (by omega) (by rw [ByteArray.size_append]; omega)
      refine ⟨r, Ev.step (fun k => impl_decimal.l0.eq_2 ..) (ev_bind0 rfl ?_), ?_⟩
      · rw [dig_byte h0, Int.tdiv_eq_ediv_of_nonneg h0, w64 (by omega) (by omega)]
        exact ev_pos (by omega) (ev_neg g hr)
      · rw [e, bo_app, hb, dec_big (n := n.toNat) (by omega), show n.toNat / 10 = (n / 10).toNat by omega, show ((n.toNat % 10 : Nat) : Int) = n % 10 by omega]
        simp
theorem impl_decimal_nn {n : Int} (h0 : 0 ≤ n) (h1 : n ≤ 1000000000000000000) : ∃ r, Ev (fun k => impl_decimal.f k n) r ∧ bytesOf r = dec n.toNat := by
  obtain ⟨r, hr, e⟩ := impl_decimal_l0 18 n ⟨#[]⟩ h0 (by omega) (by omega) (by decide)
  refine ⟨r, Ev.step (fun k => impl_decimal.f.eq_2 ..) (ev_neg (by omega) hr), ?_⟩
  rw [e, bo_nil]; simp
theorem impl_decimal_ev {n : Int} (h0 : -1000000000000000000 ≤ n) (h1 : n ≤ 1000000000000000000) : ∃ r, Ev (fun k => impl_decimal.f k n) r ∧ bytesOf r = numL n := by
  by_cases g : n < 0
  · obtain ⟨r, hr, e⟩ := impl_decimal_nn (n := -n) (by omega) (by omega)
    have hl := dec_len_le' (n := -n) (k := 18) (by omega) (by omega)
    have hs := sz_bo e
    refine ⟨(⟨#[45]⟩ : ByteArray) ++ r, Ev.step (fun k => impl_decimal.f.eq_2 ..) (ev_pos g ?_), ?_⟩
    · rw [w64 (by omega) (by omega)]
      exact hr.bind (ev_pos (by omega) (Ev.now _))
    · rw [bo_app, e, numL_neg g]; rfl
  · obtain ⟨r, hr, e⟩ := impl_decimal_nn (n := n) (by omega) h1
    exact ⟨r, hr, by rw [e, numL_pos (by omega)]⟩
theorem spec_l01Dec_d : ∀ (d : Nat) (n : Int), 0 ≤ n → n < 10 ^ (d + 1) → n ≤ 9223372036854775807 → d ≤ 1000 → ∃ r, Ev (fun k => spec_l01Dec.f k n) r ∧ bytesOf r = dec n.toNat := by
  intro d
  induction d with
  | zero =>
    intro n h0 h1 h2 _
    have hb : bytesOf (strOfNums [48 + n]) = [48 + n] := bo_one (by unfold byte; omega)
    refine ⟨strOfNums [48 + n], Ev.step (fun k => spec_l01Dec.f.eq_2 ..) (ev_pos (by omega) (ev_ret ?_)), ?_⟩
    · rw [w64 (by omega) (by omega), show (48 + n) % 256 = 48 + n by omega]
    · rw [hb, dec_small (by omega)]
      congr 2; omega
  | succ d ih =>
    intro n h0 h1 h2 hd
    by_cases g : n < 10
    · have hb : bytesOf (strOfNums [48 + n]) = [48 + n] := bo_one (by unfold byte; omega)
      refine ⟨strOfNums [48 + n], Ev.step (fun k => spec_l01Dec.f.eq_2 ..) (ev_pos g (ev_ret ?_)), ?_⟩
      · rw [w64 (by omega) (by omega), show (48 + n) % 256 = 48 + n by omega]
      · rw [hb, dec_small (by omega)]
        congr 2; omega
    · have hb : bytesOf (strOfNums [48 + n % 10]) = [48 + n % 10] := bo_one (by unfold byte; omega)
      have hs := sz_bo hb
      simp only [List.length_singleton] at hs
      obtain ⟨r, hr, e⟩ := ih (n / 10) (by omega) (by rw [Int.pow_succ] at h1; omega) (by omega) (by omega)
      have hl := dec_len_le' (n := n / 10) (k := d) (by omega) (by rw [Int.pow_succ] at h1; omega)
      have hsr := sz_bo e
      refine ⟨r ++ strOfNums [48 + n % 10], Ev.step (fun k => spec_l01Dec.f.eq_2 ..) (ev_neg g ?_), ?_⟩
      · rw [dig_byte h0, Int.tdiv_eq_ediv_of_nonneg h0, w64 (by omega) (by omega)]
        exact hr.bind (ev_bind0 rfl (ev_pos (by omega) (Ev.now _)))
      · rw [bo_app, e, hb, dec_big (n := n.toNat) (by omega), show n.toNat / 10 = (n / 10).toNat by omega, show ((n.toNat % 10 : Nat) : Int) = n % 10 by omega]
theorem spec_l01Dec_ev {n : Int} (h0 : 0 ≤ n) (h1 : n ≤ 1000000000000000000) : ∃ r, Ev (fun k => spec_l01Dec.f k n) r ∧ bytesOf r = dec n.toNat := spec_l01Dec_d 18 n h0 (by omega) (by omega) (by omega)
theorem spec_l01Number_ev {n : Int} (h0 : -1000000000000000000 ≤ n) (h1 : n ≤ 1000000000000000000) : ∃ r, Ev (fun k => spec_l01Number.f k n) r ∧ bytesOf r = numL n := by
  unfold spec_l01Number.f
  by_cases g : n < 0
  · obtain ⟨r, hr, e⟩ := spec_l01Dec_ev (n := -n) (by omega) (by omega)
    have hl := dec_len_le' (n := -n) (k := 18) (by omega) (by omega)
    have hs := sz_bo e
    refine ⟨(⟨#[45]⟩ : ByteArray) ++ r, ev_pos g ?_, ?_⟩
    · rw [w64 (by omega) (by omega)]
      exact hr.bind (ev_pos (by omega) (Ev.now _))
    · rw [bo_app, e, numL_neg g]; rfl
  · obtain ⟨r, hr, e⟩ := spec_l01Dec_ev (n := n) (by omega) h1
    exact ⟨r, ev_neg g (hr.bind (Ev.now _)), by rw [e, numL_pos (by omega)]⟩
theorem numL_len {n : Int} (h0 : -1000000000000000000 ≤ n) (h1 : n ≤ 1000000000000000000) : (numL n).length ≤ 20 := by
  by_cases g : n < 0
  · rw [numL_neg g]
    have hl := dec_len_le' (n := -n) (k := 18) (by omega) (by omega)
    simp; omega
  · rw [numL_pos (by omega)]
    have hl := dec_len_le' (n := n) (k := 18) (by omega) (by omega)
    omega

/-! ### the text of an article -/
def jrN (b : Int) : List Int → List Int
  | [] => []
  | n :: l => b :: (numL n ++ jrN b l)
def artL (c : ByteArray) (l : List Int) : List Int := bytesOf c ++ jrN 47 l
theorem bo_slash' : bytesOf (⟨#[47]⟩ : ByteArray) = [47] := rfl
theorem sz_slash' : (⟨#[47]⟩ : ByteArray).size = 1 := rfl
theorem impl_articleText_l0 (l : List Int) (hl : l.length ≤ 100) (hv : ∀ n ∈ l, -1000000000000000000 ≤ n ∧ n ≤ 1000000000000000000) : ∀ (R : List Int) (i : Nat) (A : ByteArray), l.drop i = R → A.size ≤ 1000000 + i * 100 →
    ∃ r, Ev (fun k => impl_articleText.l0 k A l (l.length : Int) i) r ∧ bytesOf r = bytesOf A ++ jrN 47 R ∧ r.size ≤ A.size + 21 * R.length := by
  intro R
  induction R with
  | nil =>
    intro i A h hA
    have := drop_nil h
    exact ⟨A, Ev.step (fun k => impl_articleText.l0.eq_2 ..) (ev_neg (by omega) (Ev.now _)), by simp [jrN], by omega⟩
  | cons n R ih =>
    intro i A h hA
    obtain ⟨h1, h2, h3⟩ := rd_drop h
    have hn : n ∈ l := by
      have : n ∈ l.drop i := by rw [h]; simp
      exact List.mem_of_mem_drop this
    have hb := hv n hn
    obtain ⟨t, et, ht⟩ := impl_decimal_ev (n := n) (by omega) (by omega)
    have hts : t.size ≤ 20 := by rw [sz_bo ht]; exact numL_len (n := n) (by omega) (by omega)
    have hs : ((⟨#[47]⟩ : ByteArray) ++ t).size = 1 + t.size := by rw [ByteArray.size_append, sz_slash']
    obtain ⟨r, er, hr, hr'⟩ := ih (i + 1) (A ++ ((⟨#[47]⟩ : ByteArray) ++ t)) h3 (by rw [ByteArray.size_append, hs]; omega)
    refine ⟨r, Ev.step (fun k => impl_articleText.l0.eq_2 ..) (ev_pos (by omega) (ev_pos (by omega) (ev_pos (by omega) ?_))), ?_, ?_⟩
    · rw [h2, w64 (n := (i : Int) + 1) (by omega) (by omega)]
      exact et.bind (ev_pos (by omega) (ev_pos (by omega) er))
    · rw [hr, bo_app, bo_app, bo_slash', ht, jrN, List.append_assoc]; simp
    · rw [ByteArray.size_append, hs] at hr'
      simp only [List.length_cons]; omega
def joN (b : Int) (i : Nat) (R : List Int) : List Int := if i = 0 then (match R with | [] => [] | n :: l => numL n ++ jrN b l) else jrN b R
theorem spec_l01JoinS_l0 (l : List Int) (hl : l.length ≤ 100) (hv : ∀ n ∈ l, -1000000000000000000 ≤ n ∧ n ≤ 1000000000000000000) : ∀ (R : List Int) (i : Nat) (A : ByteArray), l.drop i = R → A.size ≤ i * 100 →
    ∃ r, Ev (fun k => spec_l01Join.l0 k l ⟨#[47]⟩ A i) r ∧ bytesOf r = bytesOf A ++ joN 47 i R ∧ r.size ≤ A.size + 21 * R.length := by
  intro R
  induction R with
  | nil =>
    intro i A h hA
    have := drop_nil h
    exact ⟨A, Ev.step (fun k => spec_l01Join.l0.eq_2 ..) (ev_neg (by omega) (Ev.now _)), by unfold joN; split <;> simp [jrN], by omega⟩
  | cons n R ih =>
    intro i A h hA
    obtain ⟨h1, h2, h3⟩ := rd_drop h
    have hn : n ∈ l := by
      have : n ∈ l.drop i := by rw [h]; simp
      exact List.mem_of_mem_drop this
    have hb := hv n hn
    obtain ⟨w, ew, hw⟩ := spec_l01Number_ev (n := n) (by omega) (by omega)
    have hws : w.size ≤ 20 := by rw [sz_bo hw]; exact numL_len (n := n) (by omega) (by omega)
    cases i with
    | zero =>
      obtain ⟨r, er, hr, hr'⟩ := ih 1 (A ++ w) h3 (by rw [ByteArray.size_append]; omega)
      refine ⟨r, Ev.step (fun k => spec_l01Join.l0.eq_2 ..) (ev_pos (by omega) (ev_neg (by omega) (ev_pos (by omega) ?_))), ?_, ?_⟩
      · rw [h2, w64 (by omega) (by omega)]
        exact ew.bind (ev_pos (by omega) er)
      · rw [hr, bo_app, hw, List.append_assoc]; rfl
      · rw [ByteArray.size_append] at hr'
        simp only [List.length_cons]; omega
    | succ i =>
      obtain ⟨r, er, hr, hr'⟩ := ih (i + 2) ((A ++ ⟨#[47]⟩) ++ w) h3 (by rw [ByteArray.size_append, ByteArray.size_append, sz_slash']; omega)
      refine ⟨r, Ev.step (fun k => spec_l01Join.l0.eq_2 ..) (ev_pos (by omega) (ev_pos (by omega) (ev_pos (by rw [sz_slash']; omega) (ev_pos (by omega) ?_)))), ?_, ?_⟩
      · rw [h2, w64 (n := ((i + 1 : Nat) : Int) + 1) (by omega) (by omega)]
        exact ew.bind (ev_pos (by rw [ByteArray.size_append, sz_slash']; omega) er)
      · rw [hr, bo_app, bo_app, hw, bo_slash']
        unfold joN
        rw [if_neg (by omega), if_neg (by omega), jrN]
        simp
      · rw [ByteArray.size_append, ByteArray.size_append, sz_slash'] at hr'
        simp only [List.length_cons]; omega
def nums8 (a1 a2 a3 a4 a5 a6 a7 a8 : Int) : List Int := [a1, a2, a3, a4, a5, a6, a7, a8]
theorem art_vals {c : ByteArray} {a1 a2 a3 a4 a5 a6 a7 a8 : Int} (h : ArtB c a1 a2 a3 a4 a5 a6 a7 a8 = true) : (∀ n ∈ nums8 a1 a2 a3 a4 a5 a6 a7 a8, 0 ≤ n ∧ n ≤ 100000) ∧ c.size ≤ 16 := by
  obtain ⟨h1, h2, h3, h4, h5, h6, h7, h8, h9⟩ := artB_true h
  constructor
  · intro n hn
    unfold nums8 at hn
    simp only [List.mem_cons, List.not_mem_nil, or_false] at hn
    omega
  · unfold wordL at h1
    simp only [Bool.and_eq_true, decide_eq_true_eq] at h1
    have := h1.1.2
    rwa [bytesOf_length] at this
theorem impl_articleText_ev {c : ByteArray} {a1 a2 a3 a4 a5 a6 a7 a8 : Int} (h : ArtB c a1 a2 a3 a4 a5 a6 a7 a8 = true) : ∃ r, Ev (fun k => impl_articleText.f k c a1 a2 a3 a4 a5 a6 a7 a8) r ∧ bytesOf r = artL c (nums8 a1 a2 a3 a4 a5 a6 a7 a8) ∧ r.size ≤ 200 := by
  obtain ⟨hv, hc⟩ := art_vals h
  obtain ⟨r, er, hr, hr'⟩ := impl_articleText_l0 (nums8 a1 a2 a3 a4 a5 a6 a7 a8) (by simp [nums8]) (fun n hn => by have := hv n hn; omega) _ 0 c rfl (by omega)
  simp only [nums8, List.drop_zero, List.length_cons, List.length_nil] at hr'
  refine ⟨r, ?_, hr, by omega⟩
  exact ev_bind0 rfl er
theorem spec_l03Text_ev {c : ByteArray} {a1 a2 a3 a4 a5 a6 a7 a8 : Int} (h : ArtB c a1 a2 a3 a4 a5 a6 a7 a8 = true) : ∃ r, Ev (fun k => spec_l03Text.f k c a1 a2 a3 a4 a5 a6 a7 a8) r ∧ bytesOf r = artL c (nums8 a1 a2 a3 a4 a5 a6 a7 a8) ∧ r.size ≤ 200 := by
  obtain ⟨hv, hc⟩ := art_vals h
  obtain ⟨r, er, hr, hr'⟩ := spec_l01JoinS_l0 (nums8 a1 a2 a3 a4 a5 a6 a7 a8) (by simp [nums8]) (fun n hn => by have := hv n hn; omega) _ 0 ⟨#[]⟩ rfl (by have : (⟨#[]⟩ : ByteArray).size = 0 := rfl; omega)
  simp only [nums8, List.drop_zero, List.length_cons, List.length_nil] at hr'
  have z0 : (⟨#[]⟩ : ByteArray).size = 0 := rfl
  have er' : Ev (fun k => spec_l01Join.f k [a1, a2, a3, a4, a5, a6, a7, a8] ⟨#[47]⟩) r := er
  refine ⟨_, ev_pos (by omega) (er'.bind (ev_pos (by rw [ByteArray.size_append, sz_slash']; omega) (Ev.now _))), ?_, ?_⟩
  · rw [bo_app, bo_app, hr, bo_slash', bo_nil]
    unfold artL nums8 joN
    simp [jrN]
  · rw [ByteArray.size_append, ByteArray.size_append, sz_slash']; omega
def ArtT (c : ByteArray) (a1 a2 a3 a4 a5 a6 a7 a8 : Int) (r : ByteArray × Int) : Prop :=
  (ArtB c a1 a2 a3 a4 a5 a6 a7 a8 = false ∧ r = (⟨#[]⟩, 1)) ∨ (ArtB c a1 a2 a3 a4 a5 a6 a7 a8 = true ∧ bytesOf r.1 = artL c (nums8 a1 a2 a3 a4 a5 a6 a7 a8) ∧ r.2 = 0 ∧ r.1.size ≤ 200)
theorem artT_uniq {c : ByteArray} {a1 a2 a3 a4 a5 a6 a7 a8 : Int} {a b : ByteArray × Int} (h : ArtT c a1 a2 a3 a4 a5 a6 a7 a8 a) (k : ArtT c a1 a2 a3 a4 a5 a6 a7 a8 b) : a = b := by
  rcases h with ⟨h1, rfl⟩ | ⟨h1, h2, h3, _⟩ <;> rcases k with ⟨k1, rfl⟩ | ⟨k1, k2, k3, _⟩
  · rfl
  · rw [h1] at k1; cases k1
  · rw [h1] at k1; cases k1
  · obtain ⟨a1, a2⟩ := a; obtain ⟨b1, b2⟩ := b
    simp only at *
    rw [h3, k3, bo_inj (h2.trans k2.symm)]
theorem impl_ArticleText_ev (c : ByteArray) (a1 a2 a3 a4 a5 a6 a7 a8 : Int) (hs : c.size ≤ 4611686018427387904) : ∃ r, Ev (fun k => impl_ArticleText.f k c a1 a2 a3 a4 a5 a6 a7 a8) r ∧ ArtT c a1 a2 a3 a4 a5 a6 a7 a8 r := by
  have h := impl_IsArticle_ev c a1 a2 a3 a4 a5 a6 a7 a8 hs
  by_cases g : ArtB c a1 a2 a3 a4 a5 a6 a7 a8 = true
  · obtain ⟨r, er, hr, hr'⟩ := impl_articleText_ev g
    exact ⟨(r, 0), h.bind (ev_pos g (er.bind (Ev.now _))), .inr ⟨g, hr, rfl, hr'⟩⟩
  · exact ⟨_, h.bind (ev_neg g (Ev.now _)), .inl ⟨by simpa using g, rfl⟩⟩
theorem spec_ArticleText_ev (c : ByteArray) (a1 a2 a3 a4 a5 a6 a7 a8 : Int) (hs : c.size ≤ 4611686018427387904) : ∃ r, Ev (fun k => spec_ArticleText.f k c a1 a2 a3 a4 a5 a6 a7 a8) r ∧ ArtT c a1 a2 a3 a4 a5 a6 a7 a8 r := by
  have h := spec_IsArticle_ev c a1 a2 a3 a4 a5 a6 a7 a8 hs
  by_cases g : ArtB c a1 a2 a3 a4 a5 a6 a7 a8 = true
  · obtain ⟨r, er, hr, hr'⟩ := spec_l03Text_ev g
    exact ⟨(r, 0), h.bind (ev_pos g (er.bind (Ev.now _))), .inr ⟨g, hr, rfl, hr'⟩⟩
  · exact ⟨_, h.bind (ev_neg g (Ev.now _)), .inl ⟨by simpa using g, rfl⟩⟩
theorem ArticleText_both (c : ByteArray) (a1 a2 a3 a4 a5 a6 a7 a8 : Int) (hs : c.size ≤ 4611686018427387904) : ∃ r, Ev (fun k => impl_ArticleText.f k c a1 a2 a3 a4 a5 a6 a7 a8) r ∧ Ev (fun k => spec_ArticleText.f k c a1 a2 a3 a4 a5 a6 a7 a8) r ∧ ArtT c a1 a2 a3 a4 a5 a6 a7 a8 r := by
  obtain ⟨a, ha, ha'⟩ := impl_ArticleText_ev c a1 a2 a3 a4 a5 a6 a7 a8 hs
  obtain ⟨b, hb, hb'⟩ := spec_ArticleText_ev c a1 a2 a3 a4 a5 a6 a7 a8 hs
  obtain rfl := artT_uniq ha' hb'
  exact ⟨a, ha, hb, ha'⟩

theorem pure (c : ByteArray) (hc : c.size ≤ maxLen) (a1 a2 a3 a4 a5 a6 a7 a8 : Int) : ∃ k, laws_FnExactArticleText.f k c a1 a2 a3 a4 a5 a6 a7 a8 = some true := by
  apply Ev.rounds
  unfold laws_FnExactArticleText.f laws_toArticle.f
  simp only [Option.bind_some]
  by_cases h : c.size ≤ 1000000
  · obtain ⟨t, et, ht⟩ := sz_small a1 a2 a3 a4 a5 a6 a7 a8 h
    obtain ⟨r, e, f, _⟩ := ArticleText_both c a1 a2 a3 a4 a5 a6 a7 a8 (by omega)
    refine ev_bind0 et (ev_neg ht (f.bind (e.bind ?_)))
    exact ev_pos rfl (ev_pos rfl (Ev.now _))
  · obtain ⟨t, et, ht⟩ := sz_big a1 a2 a3 a4 a5 a6 a7 a8 hc (by omega)
    exact ev_bind0 et (ev_pos ht (Ev.now _))
theorem walk (c : ByteArray) (a1 a2 a3 a4 a5 a6 a7 a8 : Int) (hc : c.size ≤ maxLen) (_ : (Lit.int .i64 a1).wf = true) (_ : (Lit.int .i64 a2).wf = true) (_ : (Lit.int .i64 a3).wf = true) (_ : (Lit.int .i64 a4).wf = true) (_ : (Lit.int .i64 a5).wf = true) (_ : (Lit.int .i64 a6).wf = true) (_ : (Lit.int .i64 a7).wf = true) (_ : (Lit.int .i64 a8).wf = true) (W : World) :
    Calls Try.prog 7 #[.agg #[.string c, .int .i64 a1, .int .i64 a2, .int .i64 a3, .int .i64 a4, .int .i64 a5, .int .i64 a6, .int .i64 a7, .int .i64 a8]] W fun e w' => e = .returned (.bool true) ∧ Below W.heap.size W w' := by
  obtain ⟨k, h⟩ := pure c hc a1 a2 a3 a4 a5 a6 a7 a8
  exact laws_FnExactArticleText.calls k c a1 a2 a3 a4 a5 a6 a7 a8 true W h ⟨rfl⟩

end Go.Proofs.Ytmepklccbogibaa.GoFnExactArticleText
