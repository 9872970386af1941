/- MixedGroups answers what the reference's answers, for all arguments; no condition. -/
import Derived.Test.YtmepklccbogibaaMa
import Derived.Test.YtmepklccbogibaaQFnExactMixedGroupsx
import Derived.Test.YtmepklccbogibaaHandFnExactMixedGroups
namespace Go.Proofs.Ytmepklccbogibaa.GoFnExactMixedGroups
open Go.RowKit Go.Proofs.Ytmepklccbogibaa.QFnExactMixedGroups Go.Proofs.YtmepklccbogibaaW.PrintWords Go.Proofs.YtmepklccbogibaaW.PrintLast Go.Proofs.Ytmepklccbogibaa.Ma Go.Proofs.Ytmepklccbogibaa.HandFnExactMixedGroups
set_option linter.unusedVariables false
set_option linter.unusedSimpArgs false

/-! ### division, ranges -/
theorem in_eq (a b c : Int) : spec_l01In.f a b c = some (decide (b ≤ a ∧ a ≤ c)) := by
  unfold spec_l01In.f
  by_cases h : b ≤ a <;> simp [h]
theorem within_eq (a b c : Int) : impl_within.f a b c = some (decide (b ≤ a ∧ a ≤ c)) := by
  unfold impl_within.f
  by_cases h : b ≤ a <;> simp [h]
theorem tdiv_floor {a b : Int} (hb : 0 < b) : (Int.tmod a b < 0 → Int.tdiv a b - 1 = a / b) ∧ (¬ Int.tmod a b < 0 → Int.tdiv a b = a / b) := by
  have h1 := Int.tdiv_eq_ediv (a := a) (b := b)
  have h2 := Int.tmod_eq_emod (a := a) (b := b)
  have h3 := Int.emod_nonneg a (show b ≠ 0 by omega)
  have h4 := Int.emod_lt_of_pos a hb
  by_cases h : 0 ≤ a ∨ b ∣ a
  · rw [if_pos h] at h1 h2
    omega
  · rw [if_neg h] at h1 h2
    rw [Int.sign_eq_one_of_pos hb] at h1
    omega
theorem ediv_small {a b : Int} (hb : 0 < b) (h : -4611686018427387904 ≤ a) (h' : a ≤ 4611686018427387904) : -4611686018427387904 ≤ a / b ∧ a / b ≤ 4611686018427387904 := by
  have h1 : -4611686018427387904 * b ≤ a := by
    have := Int.mul_le_mul_of_nonneg_left (show 1 ≤ b by omega) (show (0 : Int) ≤ 4611686018427387904 by omega); omega
  have h2 : a < (4611686018427387904 + 1) * b := by
    have := Int.mul_le_mul_of_nonneg_left (show 1 ≤ b by omega) (show (0 : Int) ≤ 4611686018427387905 by omega); omega
  have h3 := (Int.le_ediv_iff_mul_le hb).2 h1
  have h4 := (Int.ediv_lt_iff_lt_mul hb).2 h2
  omega
/-! ### IsWord -/
def az (c : Int) : Bool := decide (97 ≤ c) && decide (c ≤ 122)
def wordL (l : List Int) : Bool := decide (1 ≤ l.length) && decide (l.length ≤ 16) && l.all az
theorem az_lo {c : Int} (h : c < 97) : az c = false := by unfold az; simp; omega
theorem az_hi {c : Int} (h : c > 122) : az c = false := by unfold az; simp; omega
theorem az_in {c : Int} (h : ¬ c < 97) (h' : ¬ c > 122) : az c = true := by unfold az; simp; omega
theorem spec_l01In_eq (a b c : Int) : spec_l01In.f a b c = some (decide (b ≤ a) && decide (a ≤ c)) := by
  unfold spec_l01In.f
  by_cases h : b ≤ a <;> simp [h]
theorem spec_IsWord_l0 (s : ByteArray) (hs : s.size ≤ 4611686018427387904) : ∀ (R : List Int) (i : Nat), (bytesOf s).drop i = R → i ≤ s.size → Ev (fun k => spec_IsWord.l0 k s i) (R.all az && (decide (1 ≤ (s.size : Int)) && decide ((s.size : Int) ≤ 16))) := by
  intro R
  induction R with
  | nil =>
    intro i h hi
    have := bo_drop_nil h
    refine Ev.step (fun k => spec_IsWord.l0.eq_2 ..) ?_
    refine ev_neg (by omega) (ev_bind0 (spec_l01In_eq ..) (ev_ret ?_))
    simp
  | cons c R ih =>
    intro i h hi
    obtain ⟨h1, h2, h3⟩ := bt_drop h
    refine Ev.step (fun k => spec_IsWord.l0.eq_2 ..) ?_
    refine ev_pos (by omega) (ev_pos (by omega) ?_)
    rw [h2, w64 (by omega) (by omega)]
    by_cases a : c < 97
    · exact ev_pos a (ev_ret (by simp [az_lo a]))
    · refine ev_neg a ?_
      by_cases b : c > 122
      · exact ev_pos b (ev_ret (by simp [az_hi b]))
      · refine ev_neg b ?_
        have := ih (i + 1) h3 (by omega)
        rw [List.all_cons, az_in a b, Bool.true_and]
        exact this
theorem spec_IsWord_ev (s : ByteArray) (hs : s.size ≤ 4611686018427387904) : Ev (fun k => spec_IsWord.f k s) (wordL (bytesOf s)) := by
  have h := spec_IsWord_l0 s hs (bytesOf s) 0 rfl (by omega)
  unfold spec_IsWord.f
  have e : wordL (bytesOf s) = ((bytesOf s).all az && (decide (1 ≤ (s.size : Int)) && decide ((s.size : Int) ≤ 16))) := by
    unfold wordL; rw [bytesOf_length, Bool.and_comm]
    congr 2 <;> exact decide_eq_decide.2 (by omega)
  rw [e]; exact h

theorem impl_IsWord_l0 (s : ByteArray) (hs : s.size ≤ 4611686018427387904) : ∀ (R : List Int) (i : Nat), (bytesOf s).drop i = R → i ≤ s.size → Ev (fun k => impl_IsWord.l0 k s i) (R.all az) := by
  intro R
  induction R with
  | nil =>
    intro i h hi
    have := bo_drop_nil h
    refine Ev.step (fun k => impl_IsWord.l0.eq_2 ..) ?_
    exact ev_neg (by omega) (ev_ret rfl)
  | cons c R ih =>
    intro i h hi
    obtain ⟨h1, h2, h3⟩ := bt_drop h
    refine Ev.step (fun k => impl_IsWord.l0.eq_2 ..) ?_
    refine ev_pos (by omega) (ev_pos (by omega) ?_)
    rw [h2, w64 (by omega) (by omega)]
    by_cases a : c < 97
    · exact ev_pos a (ev_ret (by simp [az_lo a]))
    · refine ev_neg a ?_
      by_cases b : c > 122
      · exact ev_pos b (ev_ret (by simp [az_hi b]))
      · refine ev_neg b ?_
        have := ih (i + 1) h3 (by omega)
        rw [List.all_cons, az_in a b, Bool.true_and]
        exact this
theorem impl_IsWord_ev (s : ByteArray) (hs : s.size ≤ 4611686018427387904) : Ev (fun k => impl_IsWord.f k s) (wordL (bytesOf s)) := by
  have h := impl_IsWord_l0 s hs (bytesOf s) 0 rfl (by omega)
  have hb := bytesOf_length s
  unfold impl_IsWord.f wordL
  by_cases a : (s.size : Int) < 1
  · refine ev_pos a (Ev.step (fun k => impl_IsWord.j0.eq_2 ..) (ev_pos rfl (ev_ret ?_)))
    simp; omega
  · refine ev_neg a (Ev.step (fun k => impl_IsWord.j0.eq_2 ..) ?_)
    by_cases b : (s.size : Int) > 16
    · refine ev_pos (by simpa using b) (ev_ret ?_)
      simp; omega
    · refine ev_neg (by simpa using b) ?_
      have e : (decide (1 ≤ (bytesOf s).length) && decide ((bytesOf s).length ≤ 16) && (bytesOf s).all az) = (bytesOf s).all az := by
        simp; intro _; omega
      rw [e]; exact h

/-! ### articles -/
theorem maxLen_eq : maxLen ≤ 9223372036854775807 := by unfold maxLen; decide
def ArtB (c : ByteArray) (kind cal lift spread shots gap net group : Int) : Bool :=
  wordL (bytesOf c) && decide (0 ≤ kind ∧ kind ≤ 3) && decide (20 ≤ cal ∧ cal ≤ 300) && decide (0 ≤ lift ∧ lift ≤ 10000) && decide (0 ≤ spread ∧ spread ≤ lift) &&
    decide (1 ≤ shots ∧ shots ≤ 50) && decide (0 ≤ gap ∧ gap ≤ 10000) && decide (1 ≤ net ∧ net ≤ 100000) && decide (0 ≤ group ∧ group ≤ 3)
theorem artB_true {c : ByteArray} {kind cal lift spread shots gap net group : Int} (h : ArtB c kind cal lift spread shots gap net group = true) :
    wordL (bytesOf c) = true ∧ (0 ≤ kind ∧ kind ≤ 3) ∧ (20 ≤ cal ∧ cal ≤ 300) ∧ (0 ≤ lift ∧ lift ≤ 10000) ∧ (0 ≤ spread ∧ spread ≤ lift) ∧ (1 ≤ shots ∧ shots ≤ 50) ∧ (0 ≤ gap ∧ gap ≤ 10000) ∧ (1 ≤ net ∧ net ≤ 100000) ∧ (0 ≤ group ∧ group ≤ 3) := by
  unfold ArtB at h
  simp only [Bool.and_eq_true, decide_eq_true_eq] at h
  obtain ⟨⟨⟨⟨⟨⟨⟨⟨h1, h2⟩, h3⟩, h4⟩, h5⟩, h6⟩, h7⟩, h8⟩, h9⟩ := h
  exact ⟨h1, h2, h3, h4, h5, h6, h7, h8, h9⟩
theorem impl_IsArticle_ev (c : ByteArray) (kind cal lift spread shots gap net group : Int) (hs : c.size ≤ 4611686018427387904) :
    Ev (fun k => impl_IsArticle.f k c kind cal lift spread shots gap net group) (ArtB c kind cal lift spread shots gap net group) := by
  unfold impl_IsArticle.f ArtB
  refine (impl_IsWord_ev c hs).bind ?_
  simp only [within_eq, Option.bind_some]
  by_cases h1 : wordL (bytesOf c) = true
  · refine ev_pos h1 ?_
    simp only [h1, Bool.true_and]
    refine ev_const ?_
    simp only [decide_eq_true_eq]
    repeat' split
    all_goals first | (simp_all; done) | (simp_all; intros; omega)
  · exact ev_neg h1 (ev_ret (by simp [h1]))
theorem spec_IsArticle_ev (c : ByteArray) (kind cal lift spread shots gap net group : Int) (hs : c.size ≤ 4611686018427387904) :
    Ev (fun k => spec_IsArticle.f k c kind cal lift spread shots gap net group) (ArtB c kind cal lift spread shots gap net group) := by
  unfold spec_IsArticle.f ArtB
  refine (spec_IsWord_ev c hs).bind ?_
  simp only [in_eq, Option.bind_some]
  by_cases h1 : wordL (bytesOf c) = true
  · refine ev_pos h1 ?_
    simp only [h1, Bool.true_and]
    refine ev_const ?_
    simp only [decide_eq_true_eq]
    repeat' split
    all_goals first | (simp_all; done) | (simp_all; intros; omega)
  · exact ev_neg h1 (ev_ret (by simp [h1]))
def lenM (c : ByteArray) (kind cal lift spread shots gap net group : Int) : Int × Int :=
  if ArtB c kind cal lift spread shots gap net group = true then (lift + spread + (shots - 1) * gap, 0) else (0, 1)
theorem gap_bound {shots gap : Int} (h : 1 ≤ shots ∧ shots ≤ 50) (k : 0 ≤ gap ∧ gap ≤ 10000) : 0 ≤ (shots - 1) * gap ∧ (shots - 1) * gap ≤ 490000 := by
  constructor
  · exact Int.mul_nonneg (by omega) k.1
  · have h1 := Int.mul_le_mul_of_nonneg_right (show shots - 1 ≤ 49 by omega) k.1
    omega
theorem sz_big {c : ByteArray} (kind cal lift spread shots gap net group : Int) (h : c.size ≤ maxLen) (h2 : 1000000 < c.size) : ∃ t, laws_szArticle.f c kind cal lift spread shots gap net group 1000000 = some t ∧ t < 0 := by
  have hm := maxLen_eq
  unfold laws_szArticle.f
  rw [w64 (by omega) (by omega), if_pos (by omega)]
  exact ⟨_, rfl, by omega⟩
theorem sz_small {c : ByteArray} (kind cal lift spread shots gap net group : Int) (h2 : c.size ≤ 1000000) : ∃ t, laws_szArticle.f c kind cal lift spread shots gap net group 1000000 = some t ∧ ¬ t < 0 := by
  unfold laws_szArticle.f
  rw [w64 (by omega) (by omega), if_neg (by omega)]
  exact ⟨_, rfl, by omega⟩

/-! ### lists of articles -/
def artC (x : S26) : Bool := ArtB x.f0 x.f1 x.f2 x.f3 x.f4 x.f5 x.f6 x.f7 x.f8
def areL : Option S26 → List S26 → Bool
  | _, [] => true
  | none, x :: R => artC x && areL (some x) R
  | some q, x :: R => artC x && (Op.bytesLess q.f0.toList x.f0.toList && areL (some x) R)
def areB (m : List S26) : Bool := areL none m && decide (m.length ≤ 12)
def prevA (l : List S26) (i : Nat) : Option S26 := if i = 0 then none else some (rdOf z26 l ((i : Int) - 1))
theorem prevA_next {l R : List S26} {i : Nat} {c : S26} (h : l.drop i = c :: R) : prevA l (i + 1) = some c := by
  obtain ⟨h1, h2, h3⟩ := rdOf_drop (d := z26) h
  unfold prevA
  rw [if_neg (by omega), show ((i + 1 : Nat) : Int) - 1 = (i : Int) by omega, h2]
theorem prevA_at {l : List S26} {i : Nat} (h : (i : Int) > 0) : prevA l i = some (rd_T26 l ((i : Int) - 1)) := by unfold prevA; rw [if_neg (by omega)]; rfl
theorem prevA_zero {l : List S26} {i : Nat} (h : ¬ (i : Int) > 0) : prevA l i = none := by unfold prevA; rw [if_pos (by omega)]
theorem areL_bad {p : Option S26} {c : S26} {R : List S26} (h : ¬ artC c = true) : areL p (c :: R) = false := by
  have h' : artC c = false := by simpa using h
  cases p <;> simp [areL, h']
theorem spec_AreArticles_l0 (l : List S26) (hl : l.length ≤ 4611686018427387904) (hs : ∀ c ∈ l, c.f0.size ≤ 4611686018427387904) : ∀ (R : List S26) (i : Nat), l.drop i = R → Ev (fun k => spec_AreArticles.l0 k l i) (areL (prevA l i) R && decide (l.length ≤ 12)) := by
  intro R
  induction R with
  | nil =>
    intro i h
    have := drop_nil h
    refine Ev.step (fun k => spec_AreArticles.l0.eq_2 ..) (ev_neg (by omega) (ev_ret ?_))
    have e : areL (prevA l i) [] = true := by unfold areL; rfl
    rw [e, Bool.true_and]
    exact decide_eq_decide.2 (by omega)
  | cons c R ih =>
    intro i h
    obtain ⟨h1, h2, h3⟩ := rdOf_drop (d := z26) h
    have h2' : rd_T26 l (i : Int) = c := h2
    obtain ⟨_, h4, _⟩ := drop_cons h
    have hc := hs c (List.mem_of_getElem? h4)
    have hn := ih (i + 1) h3
    rw [prevA_next h] at hn
    refine Ev.step (fun k => spec_AreArticles.l0.eq_2 ..) (ev_pos (by omega) (ev_pos (by omega) ?_))
    rw [h2', w64 (n := (i : Int) + 1) (by omega) (by omega)]
    refine (spec_IsArticle_ev c.f0 c.f1 c.f2 c.f3 c.f4 c.f5 c.f6 c.f7 c.f8 hc).bind ?_
    by_cases a : artC c = true
    · refine ev_pos a ?_
      by_cases g : (i : Int) > 0
      · refine ev_pos g ?_
        rw [w64 (n := (i : Int) - 1) (by omega) (by omega), prevA_at g]
        refine ev_pos (by omega) (ev_pos (by omega) ?_)
        by_cases u : Op.bytesLess (rd_T26 l ((i : Int) - 1)).f0.toList c.f0.toList = true
        · refine ev_pos u ?_
          have e : areL (some (rd_T26 l ((i : Int) - 1))) (c :: R) = areL (some c) R := by simp [areL, a, u]
          rw [e]; exact hn
        · refine ev_neg u (ev_ret ?_)
          have u' : Op.bytesLess (rd_T26 l ((i : Int) - 1)).f0.toList c.f0.toList = false := by simpa using u
          simp [areL, u']
      · refine ev_neg g ?_
        have e : areL none (c :: R) = areL (some c) R := by simp [areL, a]
        rw [prevA_zero g, e]; exact hn
    · exact ev_neg a (ev_ret (by rw [areL_bad a]; rfl))
theorem spec_AreArticles_ev (l : List S26) (hl : l.length ≤ 4611686018427387904) (hs : ∀ c ∈ l, c.f0.size ≤ 4611686018427387904) : Ev (fun k => spec_AreArticles.f k l) (areB l) := by
  have h := spec_AreArticles_l0 l hl hs l 0 rfl
  have e : prevA l 0 = none := by unfold prevA; rw [if_pos rfl]
  rw [e] at h
  exact h
theorem impl_AreArticles_l0 (l : List S26) (hl : l.length ≤ 4611686018427387904) (hs : ∀ c ∈ l, c.f0.size ≤ 4611686018427387904) : ∀ (R : List S26) (i : Nat), l.drop i = R → Ev (fun k => impl_AreArticles.l0 k l l (l.length : Int) i) (areL (prevA l i) R) := by
  intro R
  induction R with
  | nil =>
    intro i h
    have := drop_nil h
    refine Ev.step (fun k => impl_AreArticles.l0.eq_2 ..) (ev_neg (by omega) (ev_ret ?_))
    unfold areL; rfl
  | cons c R ih =>
    intro i h
    obtain ⟨h1, h2, h3⟩ := rdOf_drop (d := z26) h
    have h2' : rd_T26 l (i : Int) = c := h2
    obtain ⟨_, h4, _⟩ := drop_cons h
    have hc := hs c (List.mem_of_getElem? h4)
    have hn := ih (i + 1) h3
    rw [prevA_next h] at hn
    refine Ev.step (fun k => impl_AreArticles.l0.eq_2 ..) (ev_pos (by omega) (ev_pos (by omega) (ev_pos (by omega) ?_)))
    rw [h2', w64 (n := (i : Int) + 1) (by omega) (by omega)]
    refine (impl_IsArticle_ev c.f0 c.f1 c.f2 c.f3 c.f4 c.f5 c.f6 c.f7 c.f8 hc).bind ?_
    by_cases a : artC c = true
    · refine ev_pos a ?_
      by_cases g : (i : Int) > 0
      · refine ev_pos g ?_
        rw [w64 (n := (i : Int) - 1) (by omega) (by omega), prevA_at g]
        refine ev_pos (by omega) (ev_pos (by omega) ?_)
        by_cases u : Op.bytesLess (rd_T26 l ((i : Int) - 1)).f0.toList c.f0.toList = true
        · refine ev_pos u ?_
          have e : areL (some (rd_T26 l ((i : Int) - 1))) (c :: R) = areL (some c) R := by simp [areL, a, u]
          rw [e]; exact hn
        · refine ev_neg u (ev_ret ?_)
          have u' : Op.bytesLess (rd_T26 l ((i : Int) - 1)).f0.toList c.f0.toList = false := by simpa using u
          simp [areL, u']
      · refine ev_neg g ?_
        have e : areL none (c :: R) = areL (some c) R := by simp [areL, a]
        rw [prevA_zero g, e]; exact hn
    · exact ev_neg a (ev_ret (areL_bad a).symm)
theorem impl_AreArticles_ev (l : List S26) (hl : l.length ≤ 4611686018427387904) (hs : ∀ c ∈ l, c.f0.size ≤ 4611686018427387904) : Ev (fun k => impl_AreArticles.f k l) (areB l) := by
  have h := impl_AreArticles_l0 l hl hs l 0 rfl
  have e : prevA l 0 = none := by unfold prevA; rw [if_pos rfl]
  rw [e] at h
  unfold impl_AreArticles.f areB
  by_cases a : (l.length : Int) > 12
  · exact ev_pos a (ev_ret (by rw [decide_eq_false (by omega), Bool.and_false]))
  · refine ev_neg a ?_
    rw [decide_eq_true (by omega), Bool.and_true]
    exact h
/-! #### the article with a code -/
def findA (s : ByteArray) : List S26 → Nat → Int
  | [], _ => -1
  | c :: R, i => if c.f0.toList = s.toList then (i : Int) else findA s R (i + 1)
def findR (l : List S26) (s : ByteArray) : Int × Int := if areB l = true then (if findA s l 0 < 0 then (0, 4) else (findA s l 0, 0)) else (0, 1)
def netF : List S26 → List Int → Int → Int
  | c :: R, n :: S, x => netF R S (wrap64 (x + wrap64 (c.f7 * n)))
  | _, _, x => x
def cntB (l : List S26) (m : List Int) : Bool := decide (m.length = l.length) && decide (∀ n ∈ m, 0 ≤ n ∧ n ≤ 1000)
def netM (l : List S26) (m : List Int) : Int × Int := if areB l = true then (if cntB l m = true then (netF l m 0, 0) else (0, 2)) else (0, 1)
theorem spec_l03Code_l0 (l : List S26) (m : List Int) (hl : l.length ≤ 1000000000) (hm : m.length ≤ 1000000000) : ∀ (R : List Int) (i : Nat), m.drop i = R → Ev (fun k => spec_l03Code.l0 k l m i) (if (decide (m.length = l.length) && decide (∀ n ∈ R, 0 ≤ n ∧ n ≤ 1000)) = true then 0 else 2) := by
  intro R
  induction R with
  | nil =>
    intro i h
    have := drop_nil h
    refine Ev.step (fun k => spec_l03Code.l0.eq_2 ..) (ev_neg (by omega) ?_)
    by_cases g : m.length = l.length
    · exact ev_pos (by omega) (ev_ret (by simp [g]))
    · exact ev_neg (by omega) (ev_ret (by simp [g]))
  | cons c R ih =>
    intro i h
    obtain ⟨g1, g2, g3⟩ := rd_drop h
    refine Ev.step (fun k => spec_l03Code.l0.eq_2 ..) (ev_pos (by omega) (ev_pos (by omega) (ev_bind0 (in_eq ..) ?_)))
    rw [g2, w64 (n := (i : Int) + 1) (by omega) (by omega)]
    by_cases a : 0 ≤ c ∧ c ≤ 1000
    · refine ev_pos (by simpa using a) ?_
      have e : decide (∀ n ∈ c :: R, 0 ≤ n ∧ n ≤ 1000) = decide (∀ n ∈ R, 0 ≤ n ∧ n ≤ 1000) := decide_eq_decide.2 (by simp [a])
      rw [e]; exact ih (i + 1) g3
    · refine ev_neg (by simpa using a) (ev_ret ?_)
      have e : decide (∀ n ∈ c :: R, 0 ≤ n ∧ n ≤ 1000) = false := decide_eq_false (fun h => a (h c (by simp)))
      rw [e]; simp
theorem impl_allWithin_l0 (l : List Int) (hl : l.length ≤ 4611686018427387904) (a b : Int) : ∀ (R : List Int) (i : Nat), l.drop i = R → Ev (fun k => impl_allWithin.l0 k a b l (l.length : Int) i) (decide (∀ n ∈ R, a ≤ n ∧ n ≤ b)) := by
  intro R
  induction R with
  | nil =>
    intro i h
    have := drop_nil h
    exact Ev.step (fun k => impl_allWithin.l0.eq_2 ..) (ev_neg (by omega) (ev_ret (by simp)))
  | cons n R ih =>
    intro i h
    obtain ⟨h1, h2, h3⟩ := rd_drop h
    refine Ev.step (fun k => impl_allWithin.l0.eq_2 ..) (ev_pos (by omega) (ev_pos (by omega) (ev_pos (by omega) ?_)))
    rw [h2, w64 (n := (i : Int) + 1) (by omega) (by omega)]
    refine ev_bind0 (within_eq ..) ?_
    by_cases g : a ≤ n ∧ n ≤ b
    · refine ev_pos (by simpa using g) ?_
      have e : (∀ m ∈ n :: R, a ≤ m ∧ m ≤ b) ↔ ∀ m ∈ R, a ≤ m ∧ m ≤ b := by simp [g]
      rw [decide_eq_decide.2 e]
      exact ih (i + 1) h3
    · exact ev_neg (by simpa using g) (ev_ret (by symm; exact decide_eq_false (fun h => g (h n (by simp)))))
theorem impl_areCounts_ev (l : List S26) (m : List Int) (hm : m.length ≤ 1000000000) : Ev (fun k => impl_areCounts.f k l m) (cntB l m) := by
  unfold cntB
  by_cases g : m.length = l.length
  · have e : Ev (fun k => impl_allWithin.f k m 0 1000) (decide (∀ n ∈ m, 0 ≤ n ∧ n ≤ 1000)) := impl_allWithin_l0 m (by omega) 0 1000 m 0 rfl
    exact ev_pos (by omega) (e.bind (ev_ret (by simp [g])))
  · exact ev_neg (by omega) (ev_ret (by simp [g]))
/-! #### numbers with one more, each once -/
def insU : List Int → Int → List Int
  | [], n => [n]
  | c :: R, n => if c < n then c :: insU R n else if c = n then c :: R else n :: c :: R
theorem insU_mem (n t : Int) : ∀ l : List Int, t ∈ insU l n ↔ t ∈ l ∨ t = n
  | [] => by simp [insU]
  | c :: R => by
    unfold insU
    split
    · rw [List.mem_cons, insU_mem n t R, List.mem_cons]; exact or_assoc.symm
    · split
      · rename_i h; subst h; simp only [List.mem_cons]; constructor
        · intro h; exact .inl h
        · rintro (h | h)
          · exact h
          · exact .inl h
      · simp only [List.mem_cons]; constructor
        · rintro (h | h | h)
          · exact .inr h
          · exact .inl (.inl h)
          · exact .inl (.inr h)
        · rintro ((h | h) | h)
          · exact .inr (.inl h)
          · exact .inr (.inr h)
          · exact .inl h
theorem insU_pw (n : Int) : ∀ l : List Int, l.Pairwise (· < ·) → (insU l n).Pairwise (· < ·)
  | [], _ => by simp [insU]
  | c :: R, h => by
    have h1 := (List.pairwise_cons.1 h).1
    have h2 := (List.pairwise_cons.1 h).2
    unfold insU
    split
    · rename_i g
      refine List.pairwise_cons.2 ⟨fun t ht => ?_, insU_pw n R h2⟩
      rcases (insU_mem n t R).1 ht with ht | ht
      · exact h1 t ht
      · rw [ht]; exact g
    · split
      · exact h
      · refine List.pairwise_cons.2 ⟨fun t ht => ?_, h⟩
        rcases List.mem_cons.1 ht with rfl | ht
        · omega
        · have := h1 t ht; omega
theorem insU_len (n : Int) : ∀ l : List Int, (insU l n).length ≤ l.length + 1
  | [] => by simp [insU]
  | c :: R => by
    have := insU_len n R
    unfold insU
    split
    · simp; omega
    · split <;> simp
theorem spec_l03Insert_l0 (l : List Int) (hl : l.length ≤ 1000000) (n : Int) : ∀ (R : List Int) (i : Nat), l.drop i = R → i ≤ l.length → Ev (fun k => spec_l03Insert.l0 k l n i) (l.take i ++ insU R n) := by
  intro R
  induction R with
  | nil =>
    intro i h hi
    have := drop_nil h
    refine Ev.step (fun k => spec_l03Insert.l0.eq_2 ..) (ev_neg (by omega) (ev_pos ⟨by omega, by omega, by omega⟩ (ev_ret ?_)))
    rw [show ((i : Nat) : Int).toNat = i by omega, h]
    simp [insU]
  | cons c R ih =>
    intro i h hi
    obtain ⟨h1, h2, h3⟩ := rd_drop h
    obtain ⟨_, h4, _⟩ := drop_cons h
    refine Ev.step (fun k => spec_l03Insert.l0.eq_2 ..) (ev_pos (by omega) (ev_pos (by omega) ?_))
    rw [h2, w64 (n := (i : Int) + 1) (by omega) (by omega)]
    unfold insU
    by_cases g : c < n
    · have e := ih (i + 1) h3 (by omega)
      rw [List.take_add_one, h4] at e
      refine ev_pos g ?_
      rw [if_pos g]
      simpa using e
    · rw [if_neg g]
      refine ev_neg g ?_
      by_cases g2 : c = n
      · refine ev_pos g2 (ev_ret ?_)
        rw [if_pos g2, ← h, List.take_append_drop]
      · refine ev_neg g2 (ev_pos ⟨by omega, by omega, by omega⟩ (ev_ret ?_))
        rw [if_neg g2, show ((i : Nat) : Int).toNat = i by omega, h]
        simp
theorem spec_l03Insert_ev (l : List Int) (hl : l.length ≤ 1000000) (n : Int) : Ev (fun k => spec_l03Insert.f k l n) (insU l n) := by
  have := spec_l03Insert_l0 l hl n l 0 rfl (by omega)
  rw [List.take_zero, List.nil_append] at this
  exact this
theorem pw_ext : ∀ (l m : List Int), l.Pairwise (· < ·) → m.Pairwise (· < ·) → (∀ t, t ∈ l ↔ t ∈ m) → l = m
  | [], [], _, _, _ => rfl
  | [], b :: m, _, _, h => by have := (h b).2 (by simp); simp at this
  | a :: l, [], _, _, h => by have := (h a).1 (by simp); simp at this
  | a :: l, b :: m, hl, hm, h => by
    obtain ⟨l1, l2⟩ := List.pairwise_cons.1 hl
    obtain ⟨m1, m2⟩ := List.pairwise_cons.1 hm
    have e : a = b := by
      rcases List.mem_cons.1 ((h a).1 (by simp)) with e | e
      · exact e
      · rcases List.mem_cons.1 ((h b).2 (by simp)) with f | f
        · exact f.symm
        · have := m1 a e; have := l1 b f; omega
    subst e
    rw [pw_ext l m l2 m2 (fun t => ⟨fun ht => ?_, fun ht => ?_⟩)]
    · rcases List.mem_cons.1 ((h t).1 (by simp [ht])) with e | e
      · have := l1 t ht; omega
      · exact e
    · rcases List.mem_cons.1 ((h t).2 (by simp [ht])) with e | e
      · have := m1 t ht; omega
      · exact e

/-! ### the groups of an order -/
def mixF : List S26 → List Int → List Int → List Int
  | c :: R, n :: S, acc => if n > 0 then mixF R S (insU acc c.f8) else mixF R S acc
  | _, _, acc => acc
def mixM (l : List S26) (m : List Int) : List Int × Int := if areB l = true then (if cntB l m = true then (mixF l m [], 0) else ([], 2)) else ([], 1)
theorem mixF_nil (S acc : List Int) : mixF [] S acc = acc := by cases S <;> rfl
theorem spec_Mixed_l0 (l : List S26) (m : List Int) (hl : l.length ≤ 100000) (he : m.length = l.length) : ∀ (R : List S26) (S : List Int) (i : Nat) (acc : List Int), l.drop i = R → m.drop i = S → acc.length ≤ i → i ≤ l.length → Ev (fun k => spec_MixedGroups.l0 k l m acc i) (mixF R S acc, 0) := by
  intro R
  induction R with
  | nil =>
    intro S i acc h k _ _
    have := drop_nil h
    exact Ev.step (fun k => spec_MixedGroups.l0.eq_2 ..) (ev_neg (by omega) (ev_ret (by rw [mixF_nil])))
  | cons c R ih =>
    intro S i acc h k ha hi
    obtain ⟨h1, h2, h3⟩ := rdOf_drop (d := z26) h
    have h2' : rd_T26 l (i : Int) = c := h2
    cases S with
    | nil => have := drop_nil k; omega
    | cons n S =>
      obtain ⟨k1, k2, k3⟩ := rd_drop k
      refine Ev.step (fun k => spec_MixedGroups.l0.eq_2 ..) (ev_pos (by omega) (ev_pos (by omega) (ev_pos (by omega) ?_)))
      rw [h2', k2, w64 (n := (i : Int) + 1) (by omega) (by omega)]
      by_cases g : n > 0
      · rw [show mixF (c :: R) (n :: S) acc = mixF R S (insU acc c.f8) from if_pos g]
        have := insU_len c.f8 acc
        exact ev_pos g ((spec_l03Insert_ev acc (by omega) c.f8).bind (ih S (i + 1) _ h3 k3 (by omega) (by omega)))
      · rw [show mixF (c :: R) (n :: S) acc = mixF R S acc from if_neg g]
        exact ev_neg g (ih S (i + 1) acc h3 k3 (by omega) (by omega))
theorem areL_art : ∀ (R : List S26) (p : Option S26), areL p R = true → ∀ c ∈ R, artC c = true
  | [], _, _, c, hc => by simp at hc
  | x :: R, p, h, c, hc => by
    cases p with
    | none =>
      simp only [areL, Bool.and_eq_true] at h
      rcases List.mem_cons.1 hc with rfl | hc
      · exact h.1
      · exact areL_art R (some x) h.2 c hc
    | some q =>
      simp only [areL, Bool.and_eq_true] at h
      rcases List.mem_cons.1 hc with rfl | hc
      · exact h.1
      · exact areL_art R (some x) h.2.2 c hc
theorem areB_art {l : List S26} (h : areB l = true) : (∀ c ∈ l, artC c = true) ∧ l.length ≤ 12 := by
  unfold areB at h
  simp only [Bool.and_eq_true, decide_eq_true_eq] at h
  exact ⟨areL_art l none h.1, h.2⟩
theorem spec_MixedGroups_ev (l : List S26) (m : List Int) (hl : l.length ≤ 1000000000) (hm : m.length ≤ 1000000000) (hs : ∀ c ∈ l, c.f0.size ≤ 4611686018427387904) : Ev (fun k => spec_MixedGroups.f k l m) (mixM l m) := by
  have hc : Ev (fun k => spec_l03Code.f k l m) (if areB l = true then (if cntB l m = true then 0 else 2) else 1) := by
    refine (spec_AreArticles_ev l (by omega) hs).bind ?_
    by_cases a : areB l = true
    · refine ev_pos a ?_
      rw [if_pos a]
      exact spec_l03Code_l0 l m hl hm m 0 rfl
    · exact ev_neg a (ev_ret (by rw [if_neg a]))
  refine hc.bind ?_
  unfold mixM
  by_cases a : areB l = true
  · rw [if_pos a, if_pos a]
    by_cases b : cntB l m = true
    · rw [if_pos b, if_pos b]
      have he : m.length = l.length := by unfold cntB at b; simp only [Bool.and_eq_true, decide_eq_true_eq] at b; exact b.1
      exact ev_pos rfl (spec_Mixed_l0 l m (by have := (areB_art a).2; omega) he l m 0 [] rfl rfl (by simp) (by omega))
    · rw [if_neg b, if_neg b]
      exact ev_neg (by decide) (Ev.now _)
  · rw [if_neg a, if_neg a]
    exact ev_neg (by decide) (Ev.now _)
def outL (a b c d : Bool) : List Int := (if a = true then [0] else []) ++ ((if b = true then [1] else []) ++ ((if c = true then [2] else []) ++ (if d = true then [3] else [])))
theorem ins_out (a b c d : Bool) : insU (outL a b c d) 0 = outL true b c d ∧ insU (outL a b c d) 1 = outL a true c d ∧ insU (outL a b c d) 2 = outL a b true d ∧ insU (outL a b c d) 3 = outL a b c true := by
  cases a <;> cases b <;> cases c <;> cases d <;> decide
theorem mgI1_4 (a b c d : Bool) (out : List Int) : Ev (fun k => mgI1 k a b c d out 4) out := Ev.step (fun k => mgI1.eq_2 ..) (ev_neg (by decide) (Ev.now _))
theorem mgI1_3 (a b c d : Bool) (out : List Int) (h : out.length ≤ 100) : Ev (fun k => mgI1 k a b c d out 3) (out ++ (if d = true then [3] else [])) := by
  refine Ev.step (fun k => mgI1.eq_2 ..) (ev_pos (by decide) (ev_neg (by decide) (ev_neg (by decide) (ev_neg (by decide) (ev_pos rfl ?_)))))
  rw [w64 (n := (3 : Int) + 1) (by omega) (by omega)]
  by_cases g : d = true
  · rw [if_pos g]; exact ev_pos g (ev_pos (by omega) (mgI1_4 a b c d _))
  · rw [if_neg g, List.append_nil]; exact ev_neg g (mgI1_4 a b c d _)
theorem mgI1_2 (a b c d : Bool) (out : List Int) (h : out.length ≤ 90) : Ev (fun k => mgI1 k a b c d out 2) (out ++ ((if c = true then [2] else []) ++ (if d = true then [3] else []))) := by
  refine Ev.step (fun k => mgI1.eq_2 ..) (ev_pos (by decide) (ev_neg (by decide) (ev_neg (by decide) (ev_pos rfl ?_))))
  rw [w64 (n := (2 : Int) + 1) (by omega) (by omega), ← List.append_assoc]
  by_cases g : c = true
  · rw [if_pos g]; exact ev_pos g (ev_pos (by omega) (mgI1_3 a b c d _ (by simp; omega)))
  · rw [if_neg g, List.append_nil]; exact ev_neg g (mgI1_3 a b c d _ (by omega))
theorem mgI1_1 (a b c d : Bool) (out : List Int) (h : out.length ≤ 80) : Ev (fun k => mgI1 k a b c d out 1) (out ++ ((if b = true then [1] else []) ++ ((if c = true then [2] else []) ++ (if d = true then [3] else [])))) := by
  refine Ev.step (fun k => mgI1.eq_2 ..) (ev_pos (by decide) (ev_neg (by decide) (ev_pos rfl ?_)))
  rw [w64 (n := (1 : Int) + 1) (by omega) (by omega), ← List.append_assoc]
  by_cases g : b = true
  · rw [if_pos g]; exact ev_pos g (ev_pos (by omega) (mgI1_2 a b c d _ (by simp; omega)))
  · rw [if_neg g, List.append_nil]; exact ev_neg g (mgI1_2 a b c d _ (by omega))
theorem mgI1_0 (a b c d : Bool) : Ev (fun k => mgI1 k a b c d [] 0) (outL a b c d) := by
  refine Ev.step (fun k => mgI1.eq_2 ..) (ev_pos (by decide) (ev_pos rfl ?_))
  rw [w64 (n := (0 : Int) + 1) (by omega) (by omega)]
  unfold outL
  by_cases g : a = true
  · rw [if_pos g]; exact ev_pos g (ev_pos (by simp) (mgI1_1 a b c d [0] (by simp)))
  · rw [if_neg g, List.nil_append]
    have := mgI1_1 a b c d [] (by simp)
    rw [List.nil_append] at this
    exact ev_neg g this
theorem mgI0_ev (l : List S26) (m : List Int) (hl : l.length ≤ 1000000000) (he : m.length = l.length) : ∀ (R : List S26) (S : List Int) (i : Nat) (a b c d : Bool), l.drop i = R → m.drop i = S → (∀ x ∈ R, 0 ≤ x.f8 ∧ x.f8 ≤ 3) → Ev (fun k => mgI0 k l m a b c d i) (mixF R S (outL a b c d)) := by
  intro R
  induction R with
  | nil =>
    intro S i a b c d h k _
    have := drop_nil h
    rw [mixF_nil]
    exact Ev.step (fun k => mgI0.eq_2 ..) (ev_neg (by omega) (mgI1_0 a b c d))
  | cons x R ih =>
    intro S i a b c d h k hg
    obtain ⟨h1, h2, h3⟩ := rdOf_drop (d := z26) h
    have h2' : rd_T26 l (i : Int) = x := h2
    have hx := hg x (by simp)
    have hg' : ∀ y ∈ R, 0 ≤ y.f8 ∧ y.f8 ≤ 3 := fun y hy => hg y (by simp [hy])
    cases S with
    | nil => have := drop_nil k; omega
    | cons n S =>
      obtain ⟨k1, k2, k3⟩ := rd_drop k
      obtain ⟨o0, o1, o2, o3⟩ := ins_out a b c d
      refine Ev.step (fun k => mgI0.eq_2 ..) (ev_pos (by omega) (ev_pos ⟨by omega, by omega⟩ ?_))
      rw [h2', k2, w64 (n := (i : Int) + 1) (by omega) (by omega)]
      by_cases g : n > 0
      · rw [show mixF (x :: R) (n :: S) (outL a b c d) = mixF R S (insU (outL a b c d) x.f8) from if_pos g]
        refine ev_pos g ?_
        by_cases g0 : x.f8 = 0
        · rw [g0, o0]; exact ev_pos rfl (ih S (i + 1) true b c d h3 k3 hg')
        refine ev_neg g0 ?_
        by_cases g1 : x.f8 = 1
        · rw [g1, o1]; exact ev_pos rfl (ih S (i + 1) a true c d h3 k3 hg')
        refine ev_neg g1 ?_
        by_cases g2 : x.f8 = 2
        · rw [g2, o2]; exact ev_pos rfl (ih S (i + 1) a b true d h3 k3 hg')
        refine ev_neg g2 ?_
        by_cases g3 : x.f8 = 3
        · rw [g3, o3]; exact ev_pos rfl (ih S (i + 1) a b c true h3 k3 hg')
        · omega
      · rw [show mixF (x :: R) (n :: S) (outL a b c d) = mixF R S (outL a b c d) from if_neg g]
        exact ev_neg g (ih S (i + 1) a b c d h3 k3 hg')
theorem art_group {c : S26} (h : artC c = true) : 0 ≤ c.f8 ∧ c.f8 ≤ 3 := (artB_true h).2.2.2.2.2.2.2.2
theorem impl_MixedGroups_ev (l : List S26) (m : List Int) (hl : l.length ≤ 1000000000) (hm : m.length ≤ 1000000000) (hs : ∀ c ∈ l, c.f0.size ≤ 4611686018427387904) : Ev (fun k => impl_MixedGroups.f k l m) (mixM l m) := by
  refine (impl_AreArticles_ev l (by omega) hs).bind ?_
  unfold mixM
  by_cases a : areB l = true
  · refine ev_pos a ?_
    rw [if_pos a]
    refine (impl_areCounts_ev l m hm).bind ?_
    by_cases b : cntB l m = true
    · rw [if_pos b]
      have he : m.length = l.length := by unfold cntB at b; simp only [Bool.and_eq_true, decide_eq_true_eq] at b; exact b.1
      have h := mgI0_ev l m hl he l m 0 false false false false rfl rfl (fun c hc => art_group ((areB_art a).1 c hc))
      exact ev_pos b (h.bind (Ev.now _))
    · rw [if_neg b]
      exact ev_neg b (Ev.now _)
  · rw [if_neg a]
    exact ev_neg a (Ev.now _)
theorem mixF_len : ∀ (R : List S26) (S acc : List Int), (mixF R S acc).length ≤ acc.length + R.length
  | [], S, acc => by rw [mixF_nil]; omega
  | c :: R, [], acc => by show acc.length ≤ _; omega
  | c :: R, n :: S, acc => by
    by_cases g : n > 0
    · rw [show mixF (c :: R) (n :: S) acc = mixF R S (insU acc c.f8) from if_pos g]
      have := mixF_len R S (insU acc c.f8)
      have := insU_len c.f8 acc
      simp only [List.length_cons]; omega
    · rw [show mixF (c :: R) (n :: S) acc = mixF R S acc from if_neg g]
      have := mixF_len R S acc
      simp only [List.length_cons]; omega
theorem mixM_len (l : List S26) (m : List Int) : (mixM l m).1.length ≤ 12 := by
  unfold mixM
  split
  · rename_i a
    split
    · have h1 := (areB_art a).2
      have h2 := mixF_len l m []
      simp only [List.length_nil] at h2
      show (mixF l m []).length ≤ 12
      omega
    · simp
  · simp

/-! ### lists marked and held -/
theorem set_mid {α : Type} (P R : List α) (c m : α) : (P ++ c :: R).set P.length m = P ++ m :: R := by
  rw [List.set_append_right _ _ (by omega)]; simp
theorem drop_mid {α : Type} (P R : List α) : (P ++ R).drop P.length = R := by simp
def mkI (m : Int) : Nat → List Int
  | 0 => []
  | n + 1 => m :: mkI (m + 1) n
theorem mkI_len : ∀ (n : Nat) (m : Int), (mkI m n).length = n
  | 0, _ => rfl
  | n + 1, m => by simp [mkI, mkI_len n]
theorem eqInt64S_l0 (l : List Int) (hl : l.length ≤ 4611686018427387904) : ∀ (R : List Int) (i : Nat), l.drop i = R → Ev (fun k => laws_eqInt64S.l0 k l l i) true := by
  intro R
  induction R with
  | nil =>
    intro i h
    have := drop_nil h
    exact Ev.step (fun k => laws_eqInt64S.l0.eq_2 ..) (ev_neg (by omega) (Ev.now _))
  | cons c R ih =>
    intro i h
    obtain ⟨h1, h2, h3⟩ := rd_drop h
    refine Ev.step (fun k => laws_eqInt64S.l0.eq_2 ..) (ev_pos (by omega) (ev_pos (by omega) (ev_pos (by omega) (ev_pos rfl ?_))))
    rw [w64 (n := (i : Int) + 1) (by omega) (by omega)]
    exact ih (i + 1) h3
theorem eqInt64S_ev (l : List Int) (hl : l.length ≤ 4611686018427387904) : Ev (fun k => laws_eqInt64S.f k l l) true := by
  have h := eqInt64S_l0 l hl l 0 rfl
  exact ev_pos rfl h
theorem markInt64S_l0 : ∀ (R P : List Int) (m : Int), 0 ≤ m → m + R.length ≤ 4611686018427387904 → P.length + R.length ≤ 4611686018427387904 →
    Ev (fun k => laws_markInt64S.l0 k (P ++ R) m P.length) (m + R.length, P ++ mkI m R.length) := by
  intro R
  induction R with
  | nil =>
    intro P m h0 h1 h2
    refine Ev.step (fun k => laws_markInt64S.l0.eq_2 ..) (ev_neg (by simp) (ev_ret ?_))
    simp [mkI]
  | cons c R ih =>
    intro P m h0 h1 h2
    simp only [List.length_cons] at h1 h2
    refine Ev.step (fun k => laws_markInt64S.l0.eq_2 ..) (ev_pos (by simp; omega) (ev_pos (by omega) ?_))
    have := ih (P ++ [m]) (m + 1) (by omega) (by omega) (by simp; omega)
    rw [w64 (n := m + 1) (by omega) (by omega), w64 (n := (P.length : Int) + 1) (by omega) (by omega), Int.toNat_natCast, set_mid]
    simp only [List.length_append, List.length_singleton, List.append_assoc, List.singleton_append] at this
    rw [show m + ((c :: R).length : Int) = m + 1 + (R.length : Int) by simp; omega]
    exact this
theorem markInt64S_ev (l : List Int) {m : Int} (h0 : 0 ≤ m) (h1 : m + l.length ≤ 4611686018427387904) : Ev (fun k => laws_markInt64S.f k l m) (m + l.length, mkI m l.length) := by
  have := markInt64S_l0 l [] m h0 h1 (by simp; omega)
  have h : Ev (fun k => laws_markInt64S.l0 k l m 0) (m + l.length, mkI m l.length) := by simpa using this
  exact h
theorem heldInt64S_l0 : ∀ (n : Nat) (P : List Int) (m : Int), 0 ≤ m → m + n ≤ 4611686018427387904 → P.length + n ≤ 4611686018427387904 →
    Ev (fun k => laws_heldInt64S.l0 k (P ++ mkI m n) m P.length) (m + n) := by
  intro n
  induction n with
  | zero =>
    intro P m h0 h1 h2
    exact Ev.step (fun k => laws_heldInt64S.l0.eq_2 ..) (ev_neg (by simp [mkI]) (ev_ret (by simp)))
  | succ n ih =>
    intro P m h0 h1 h2
    obtain ⟨k1, k2, k3⟩ := rd_drop (L := P ++ mkI m (n + 1)) (i := P.length) (drop_mid P _)
    refine Ev.step (fun k => laws_heldInt64S.l0.eq_2 ..) (ev_pos (by omega) (ev_pos (by omega) (ev_pos k2 ?_)))
    have := ih (P ++ [m]) (m + 1) (by omega) (by omega) (by simp; omega)
    rw [w64 (n := m + 1) (by omega) (by omega), w64 (n := (P.length : Int) + 1) (by omega) (by omega)]
    simp only [List.length_append, List.length_singleton, List.append_assoc, List.singleton_append] at this
    rw [show m + ((n + 1 : Nat) : Int) = m + 1 + (n : Int) by omega]
    exact this
theorem heldInt64S_ev {n : Nat} {m : Int} (h0 : 0 ≤ m) (h1 : m + n ≤ 4611686018427387904) : Ev (fun k => laws_heldInt64S.f k (mkI m n) m) (m + n) := by
  have := heldInt64S_l0 n [] m h0 h1 (by simp; omega)
  have h : Ev (fun k => laws_heldInt64S.l0 k (mkI m n) m 0) (m + n) := by simpa using this
  exact h
/-! #### the same of strings -/
theorem markText_l0 : ∀ (d : Nat) (n : Int) (t : ByteArray), 0 ≤ n → n ≤ d → n < 10 ^ 18 → t.size + d ≤ 4611686018427387904 → ∃ r, Ev (fun k => laws_markText.l0 k n t) r := by
  intro d
  induction d with
  | zero =>
    intro n t h0 h1 h2 h3
    exact ⟨_, Ev.step (fun k => laws_markText.l0.eq_2 ..) (ev_neg (by omega) (ev_pos (by omega) (Ev.now _)))⟩
  | succ d ih =>
    intro n t h0 h1 h2 h3
    by_cases a : n > 0
    · have z : (strOfNums [(wrap64 (48 + Int.tmod n 10)) % 256]).size = 1 := by
        have := bo_size (strOfNums [(wrap64 (48 + Int.tmod n 10)) % 256])
        rw [bo_of _ (by intro c hc; simp only [List.mem_singleton] at hc; subst hc; exact ⟨by omega, by omega⟩)] at this
        simp only [List.length_singleton] at this; omega
      have e : Int.tdiv n 10 = n / 10 := Int.tdiv_eq_ediv_of_nonneg h0
      obtain ⟨r, hr⟩ := ih (n / 10) (strOfNums [(wrap64 (48 + Int.tmod n 10)) % 256] ++ t) (by omega) (by omega) (by omega) (by rw [ByteArray.size_append]; omega)
      refine ⟨r, Ev.step (fun k => laws_markText.l0.eq_2 ..) (ev_pos a (ev_bind0 rfl (ev_pos (by omega) ?_)))⟩
      rw [e, w64 (n := n / 10) (by omega) (by omega)]
      exact hr
    · exact ⟨_, Ev.step (fun k => laws_markText.l0.eq_2 ..) (ev_neg a (ev_pos (by omega) (Ev.now _)))⟩
theorem markText_some (n : Int) (h : n ≤ 1000000) : ∃ r, Ev (fun k => laws_markText.f k n) r := by
  by_cases a : n ≤ 0
  · exact ⟨_, ev_pos a (Ev.now _)⟩
  · obtain ⟨r, hr⟩ := markText_l0 n.toNat n ⟨#[]⟩ (by omega) (by omega) (by omega) (by have : (⟨#[]⟩ : ByteArray).size = 0 := rfl; omega)
    exact ⟨r, ev_neg a hr⟩
/-- these texts are the marks from `m` on -/
def AreMarks : Int → List ByteArray → Prop
  | _, [] => True
  | m, t :: ts => Ev (fun k => laws_markText.f k m) t ∧ AreMarks (m + 1) ts
theorem markText_big (n : Int) (h : n ≤ 1000000000000) : ∃ r, Ev (fun k => laws_markText.f k n) r := by
  by_cases a : n ≤ 0
  · exact ⟨_, ev_pos a (Ev.now _)⟩
  · obtain ⟨r, hr⟩ := markText_l0 n.toNat n ⟨#[]⟩ (by omega) (by omega) (by omega) (by have : (⟨#[]⟩ : ByteArray).size = 0 := rfl; omega)
    exact ⟨r, ev_neg a hr⟩
theorem markArticleS_l0 : ∀ (d : Nat) (x : List S26) (m : Int) (i : Nat), i + d = x.length → x.length ≤ 10000000000 → 0 ≤ m → m + 9 * d ≤ 100000000000 → ∃ M, Ev (fun k => laws_markArticleS.l0 k x m i) (m + 9 * d, M) := by
  intro d
  induction d with
  | zero =>
    intro x m i h hx h0 h1
    exact ⟨x, Ev.step (fun k => laws_markArticleS.l0.eq_2 ..) (ev_neg (by omega) (ev_ret (by simp)))⟩
  | succ d ih =>
    intro x m i h hx h0 h1
    obtain ⟨t, et⟩ := markText_big m (by omega)
    have hw : wrap64 ((wrap64 ((wrap64 ((wrap64 ((wrap64 ((wrap64 ((wrap64 ((wrap64 ((wrap64 (m + 1)) + 1)) + 1)) + 1)) + 1)) + 1)) + 1)) + 1)) + 1) = m + 9 := by
      rw [w64 (n := m + 1) (by omega) (by omega), w64 (n := m + 1 + 1) (by omega) (by omega), w64 (n := m + 1 + 1 + 1) (by omega) (by omega), w64 (n := m + 1 + 1 + 1 + 1) (by omega) (by omega), w64 (n := m + 1 + 1 + 1 + 1 + 1) (by omega) (by omega), w64 (n := m + 1 + 1 + 1 + 1 + 1 + 1) (by omega) (by omega), w64 (n := m + 1 + 1 + 1 + 1 + 1 + 1 + 1) (by omega) (by omega), w64 (n := m + 1 + 1 + 1 + 1 + 1 + 1 + 1 + 1) (by omega) (by omega), w64 (by omega) (by omega)]
      omega
    have key : ∀ y : List S26, y.length = x.length → ∃ M, Ev (fun k => laws_markArticleS.l0 k y (wrap64 ((wrap64 ((wrap64 ((wrap64 ((wrap64 ((wrap64 ((wrap64 ((wrap64 ((wrap64 (m + 1)) + 1)) + 1)) + 1)) + 1)) + 1)) + 1)) + 1)) + 1)) (wrap64 ((i : Int) + 1))) (m + 9 * (d + 1 : Nat), M) := by
      intro y hy
      obtain ⟨M, e⟩ := ih y (m + 9) (i + 1) (by omega) (by omega) (by omega) (by omega)
      refine ⟨M, ?_⟩
      rw [hw, w64 (n := (i : Int) + 1) (by omega) (by omega), show m + 9 * ((d + 1 : Nat) : Int) = m + 9 + 9 * (d : Int) by omega]
      exact e
    refine (key _ ?_).elim (fun M e => ⟨M, Ev.step (fun k => laws_markArticleS.l0.eq_2 ..) (ev_pos (by omega) (et.bind (ev_pos (by omega) (ev_bind0 rfl (ev_bind0 rfl (ev_bind0 rfl (ev_bind0 rfl (ev_bind0 rfl (ev_bind0 rfl (ev_bind0 rfl (ev_bind0 rfl e)))))))))))⟩)
    simp only [List.length_set]
theorem markArticleS_ev (l : List S26) {m : Int} (h0 : 0 ≤ m) (h1 : m + 9 * l.length ≤ 10000000000) : ∃ M, Ev (fun k => laws_markArticleS.f k l m) (m + 9 * l.length, M) := markArticleS_l0 l.length l m 0 (by omega) (by omega) h0 (by omega)

/-! ### slices laid out with room behind -/
theorem room_some (n : Nat) (h : n ≤ 1000000000) : ∃ t, laws_roomBehind.f (n : Int) = some t ∧ 0 ≤ t ∧ t ≤ 1000000000 := by
  unfold laws_roomBehind.f
  split
  · exact ⟨_, rfl, by omega, by omega⟩
  · split
    · exact ⟨_, rfl, by omega, by omega⟩
    · exact ⟨_, rfl, by omega, by omega⟩
theorem take_set_ge {α : Type} (x : List α) (n j : Nat) (v : α) (h : n ≤ j) : (x.set j v).take n = x.take n := by
  rw [List.take_set, List.set_eq_of_length_le (by rw [List.length_take]; omega)]
theorem take_set_next {α : Type} (x l : List α) (i : Nat) (c : α) (hi : i < x.length) (hc : l[i]? = some c) (h : x.take i = l.take i) : (x.set i c).take (i + 1) = l.take (i + 1) := by
  obtain ⟨y, hy⟩ : ∃ y, x[i]? = some y := ⟨x[i], List.getElem?_eq_getElem hi⟩
  have hl : (x.set i c)[i]? = some c := by rw [List.getElem?_set_self hi]
  rw [List.take_add_one, List.take_add_one, hl, hc, take_set_ge _ _ _ _ (Nat.le_refl i), h]

/-! ### articles -/
def cvA (x : S23) : S26 := ⟨x.f0, x.f1, x.f2, x.f3, x.f4, x.f5, x.f6, x.f7, x.f8⟩
theorem rd23 {l : List S23} {i : Nat} {c : S23} (h : rdOf z23 l (i : Int) = c) : (⟨(rd_T23 l i).f0, (rd_T23 l i).f1, (rd_T23 l i).f2, (rd_T23 l i).f3, (rd_T23 l i).f4, (rd_T23 l i).f5, (rd_T23 l i).f6, (rd_T23 l i).f7, (rd_T23 l i).f8⟩ : S26) = cvA c := by rw [← h]; rfl
theorem eqArticleS_l0 (l : List S26) (hl : l.length ≤ 4611686018427387904) : ∀ (R : List S26) (i : Nat), l.drop i = R → Ev (fun k => laws_eqArticleS.l0 k l l i) true := by
  intro R
  induction R with
  | nil =>
    intro i h
    have := drop_nil h
    exact Ev.step (fun k => laws_eqArticleS.l0.eq_2 ..) (ev_neg (by omega) (Ev.now _))
  | cons c R ih =>
    intro i h
    obtain ⟨h1, h2, h3⟩ := rdOf_drop (d := z26) h
    refine Ev.step (fun k => laws_eqArticleS.l0.eq_2 ..) (ev_pos (by omega) (ev_pos (by omega) (ev_pos (by omega) (ev_bind0 (b := true) (by unfold laws_eqArticle.f; simp) (ev_pos rfl ?_)))))
    rw [w64 (n := (i : Int) + 1) (by omega) (by omega)]
    exact ih (i + 1) h3
theorem eqArticleS_ev (l : List S26) (hl : l.length ≤ 4611686018427387904) : Ev (fun k => laws_eqArticleS.f k l l) true := by
  have h := eqArticleS_l0 l hl l 0 rfl
  exact ev_pos rfl h
theorem toArticleSF_l1 (l : List S23) (hl : l.length ≤ 1000000000) : ∀ (d : Nat) (x : List S26) (j : Nat), x.length - j = d → x.length ≤ 3000000000 → l.length ≤ j → j ≤ x.length → x.take l.length = l.map cvA →
    ∃ L, Ev (fun k => laws_toArticleSF.l1 k l x (j : Int)) L ∧ L.length = x.length ∧ L.take l.length = l.map cvA := by
  intro d
  induction d with
  | zero =>
    intro x j hd hx hj hjx ht
    exact ⟨x, Ev.step (fun k => laws_toArticleSF.l1.eq_2 ..) (ev_neg (by omega) (ev_pos (by omega) (ev_pos (by omega) (Ev.now _)))), rfl, ht⟩
  | succ d ih =>
    intro x j hd hx hj hjx ht
    obtain ⟨L, e, h1, h2⟩ := ih (x.set j (⟨(⟨#[126, 115, 112, 97, 114, 101, 126]⟩ : ByteArray), (-7000000000000000101), (-7000000000000000101), (-7000000000000000101), (-7000000000000000101), (-7000000000000000101), (-7000000000000000101), (-7000000000000000101), (-7000000000000000101)⟩ : S26)) (j + 1) (by rw [List.length_set]; omega) (by rw [List.length_set]; omega) (by omega) (by rw [List.length_set]; omega) (by rw [take_set_ge _ _ _ _ hj, ht])
    refine ⟨L, Ev.step (fun k => laws_toArticleSF.l1.eq_2 ..) (ev_pos (by omega) (ev_bind0 rfl (ev_pos (by omega) ?_))), by rw [h1, List.length_set], h2⟩
    dsimp only
    rw [Int.toNat_natCast, w64 (n := (j : Int) + 1) (by omega) (by omega)]
    exact e
theorem toArticleSF_l0 (l : List S23) (hl : l.length ≤ 1000000000) : ∀ (R : List S23) (i : Nat) (x : List S26), l.drop i = R → i ≤ l.length → l.length ≤ x.length → x.length ≤ 3000000000 → x.take i = (l.map cvA).take i →
    ∃ L, Ev (fun k => laws_toArticleSF.l0 k l x (i : Int)) L ∧ L.length = x.length ∧ L.take l.length = l.map cvA := by
  intro R
  induction R with
  | nil =>
    intro i x h hi hx hx' ht
    have h1 := drop_nil h
    obtain ⟨L, e, h2⟩ := toArticleSF_l1 l hl (x.length - l.length) x l.length rfl hx' (Nat.le_refl _) hx (by rw [show l.length = i by omega, ht, List.take_of_length_le (by rw [List.length_map]; exact h1)])
    exact ⟨L, Ev.step (fun k => laws_toArticleSF.l0.eq_2 ..) (ev_neg (by omega) e), h2⟩
  | cons c R ih =>
    intro i x h hi hx hx' ht
    obtain ⟨h1, h2, h3⟩ := rdOf_drop (d := z23) h
    obtain ⟨_, hc, _⟩ := drop_cons h
    obtain ⟨L, e, h4, h5⟩ := ih (i + 1) (x.set i (cvA c)) h3 (by omega) (by rw [List.length_set]; omega) (by rw [List.length_set]; omega) (take_set_next x (l.map cvA) i (cvA c) (by omega) (by rw [List.getElem?_map, hc]; rfl) ht)
    refine ⟨L, Ev.step (fun k => laws_toArticleSF.l0.eq_2 ..) (ev_pos (by omega) (ev_pos (by omega) (ev_bind0 rfl (ev_pos (by omega) ?_)))), by rw [h4, List.length_set], h5⟩
    dsimp only
    rw [rd23 h2, Int.toNat_natCast, w64 (n := (i : Int) + 1) (by omega) (by omega)]
    exact e
theorem toArticleSF_ev (l : List S23) (hl : l.length ≤ 1000000000) {t : Int} (ht : laws_roomBehind.f (l.length : Int) = some t) (t0 : 0 ≤ t) (t1 : t ≤ 1000000000) : ∃ L, Ev (fun k => laws_toArticleSF.f k l false) L ∧ (L.length : Int) = l.length + t ∧ L.take l.length = l.map cvA := by
  obtain ⟨L, e, h1, h2⟩ := toArticleSF_l0 l hl l 0 (List.replicate ((l.length : Int) + t).toNat z26) rfl (by omega) (by rw [List.length_replicate]; omega) (by rw [List.length_replicate]; omega) (by simp)
  rw [List.length_replicate] at h1
  refine ⟨L, ?_, by omega, h2⟩
  refine ev_neg (by decide) (Ev.step (fun k => laws_toArticleSF.j0.eq_2 ..) (ev_neg (by decide) (ev_bind0 ht ?_)))
  rw [w64 (n := (l.length : Int) + t) (by omega) (by omega)]
  exact ev_pos (by omega) (ev_pos (by omega) e)
/-! #### the same, its room forgotten -/
theorem toArticleS_l1 (l : List S23) (hl : l.length ≤ 1000000000) : ∀ (d : Nat) (x : List S26) (j : Nat), x.length - j = d → x.length ≤ 3000000000 → l.length ≤ j → j ≤ x.length → x.take l.length = l.map cvA →
    Ev (fun k => laws_toArticleS.l1 k l x (j : Int)) (l.map cvA) := by
  intro d
  induction d with
  | zero =>
    intro x j hd hx hj hjx ht
    exact Ev.step (fun k => laws_toArticleS.l1.eq_2 ..) (ev_neg (by omega) (ev_pos (by omega) (ev_pos (by omega) (ev_ret (by rw [Int.toNat_natCast, ht])))))
  | succ d ih =>
    intro x j hd hx hj hjx ht
    have e := ih (x.set j (⟨(⟨#[126, 115, 112, 97, 114, 101, 126]⟩ : ByteArray), (-7000000000000000101), (-7000000000000000101), (-7000000000000000101), (-7000000000000000101), (-7000000000000000101), (-7000000000000000101), (-7000000000000000101), (-7000000000000000101)⟩ : S26)) (j + 1) (by rw [List.length_set]; omega) (by rw [List.length_set]; omega) (by omega) (by rw [List.length_set]; omega) (by rw [take_set_ge _ _ _ _ hj, ht])
    refine Ev.step (fun k => laws_toArticleS.l1.eq_2 ..) (ev_pos (by omega) (ev_bind0 rfl (ev_pos (by omega) ?_)))
    dsimp only
    rw [Int.toNat_natCast, w64 (n := (j : Int) + 1) (by omega) (by omega)]
    exact e
theorem toArticleS_l0 (l : List S23) (hl : l.length ≤ 1000000000) : ∀ (R : List S23) (i : Nat) (x : List S26), l.drop i = R → i ≤ l.length → l.length ≤ x.length → x.length ≤ 3000000000 → x.take i = (l.map cvA).take i →
    Ev (fun k => laws_toArticleS.l0 k l x (i : Int)) (l.map cvA) := by
  intro R
  induction R with
  | nil =>
    intro i x h hi hx hx' ht
    have h1 := drop_nil h
    have e := toArticleS_l1 l hl (x.length - l.length) x l.length rfl hx' (Nat.le_refl _) hx (by rw [show l.length = i by omega, ht, List.take_of_length_le (by rw [List.length_map]; exact h1)])
    exact Ev.step (fun k => laws_toArticleS.l0.eq_2 ..) (ev_neg (by omega) e)
  | cons c R ih =>
    intro i x h hi hx hx' ht
    obtain ⟨h1, h2, h3⟩ := rdOf_drop (d := z23) h
    obtain ⟨_, hc, _⟩ := drop_cons h
    have e := ih (i + 1) (x.set i (cvA c)) h3 (by omega) (by rw [List.length_set]; omega) (by rw [List.length_set]; omega) (take_set_next x (l.map cvA) i (cvA c) (by omega) (by rw [List.getElem?_map, hc]; rfl) ht)
    refine Ev.step (fun k => laws_toArticleS.l0.eq_2 ..) (ev_pos (by omega) (ev_pos (by omega) (ev_bind0 rfl (ev_pos (by omega) ?_))))
    dsimp only
    rw [rd23 h2, Int.toNat_natCast, w64 (n := (i : Int) + 1) (by omega) (by omega)]
    exact e
theorem toArticleS_bare (l : List S23) (hl : l.length ≤ 1000000000) : Ev (fun k => laws_toArticleS.f k l true) (l.map cvA) := by
  refine ev_pos rfl (Ev.step (fun k => laws_toArticleS.j0.eq_2 ..) ?_)
  by_cases a : l.length = 0
  · exact ev_pos (by simp [a]) (ev_ret (by rw [List.length_eq_zero_iff.1 a]; rfl))
  · obtain ⟨t, et, t0, t1⟩ := room_some l.length hl
    refine ev_neg (by simp; intro h; simp [h] at a) (ev_bind0 et ?_)
    rw [w64 (n := (l.length : Int) + t) (by omega) (by omega)]
    refine ev_pos (by omega) (ev_pos (by omega) ?_)
    exact toArticleS_l0 l hl l 0 (List.replicate ((l.length : Int) + t).toNat z26) rfl (by omega) (by rw [List.length_replicate]; omega) (by rw [List.length_replicate]; omega) (by simp)
/-! #### what a law weighs first -/
theorem szArticleS_l0 (l : List S23) (hl : l.length ≤ 4611686018427387904) (hs : ∀ c ∈ l, c.f0.size ≤ maxLen) : ∀ (R : List S23) (i : Nat) (x : Int), l.drop i = R → 0 ≤ x → x ≤ 1000000 →
    ∃ z, Ev (fun k => laws_szArticleS.l0 k l x i) z ∧ (¬ z < 0 → ∀ c ∈ R, c.f0.size ≤ 1000000) := by
  have hm := maxLen_eq
  intro R
  induction R with
  | nil =>
    intro i x h h0 h1
    have := drop_nil h
    exact ⟨x, Ev.step (fun k => laws_szArticleS.l0.eq_2 ..) (ev_neg (by omega) (Ev.now _)), fun _ => by simp⟩
  | cons c R ih =>
    intro i x h h0 h1
    obtain ⟨g1, g2, g3⟩ := rdOf_drop (d := z23) h
    have g2' : rd_T23 l (i : Int) = c := g2
    obtain ⟨_, g4, _⟩ := drop_cons h
    have hc := hs c (List.mem_of_getElem? g4)
    have e : wrap64 (x - (c.f0.size : Int)) = x - (c.f0.size : Int) := w64 (by omega) (by omega)
    by_cases a : x - (c.f0.size : Int) < 0
    · refine ⟨-1, Ev.step (fun k => laws_szArticleS.l0.eq_2 ..) (ev_pos (by omega) (ev_pos (by omega) (ev_bind0 (b := -1) ?_ (ev_pos (by decide) (Ev.now _))))), fun h => absurd h (by decide)⟩
      rw [g2']; unfold laws_szArticle.f; rw [e, if_pos a]
    · obtain ⟨z, hz, hh⟩ := ih (i + 1) (x - (c.f0.size : Int)) g3 (by omega) (by omega)
      refine ⟨z, Ev.step (fun k => laws_szArticleS.l0.eq_2 ..) (ev_pos (by omega) (ev_pos (by omega) (ev_bind0 (b := x - (c.f0.size : Int)) ?_ (ev_neg a ?_)))), fun h d hd => ?_⟩
      · rw [g2']; unfold laws_szArticle.f; rw [e, if_neg a]
      · rw [w64 (n := (i : Int) + 1) (by omega) (by omega)]; exact hz
      · rcases List.mem_cons.1 hd with rfl | hd
        · omega
        · exact hh h d hd
theorem szArticleS_some (l : List S23) (h : l.length ≤ maxLen) (hs : ∀ c ∈ l, c.f0.size ≤ maxLen) (s : Int) (s0 : s ≤ 1000000) (s1 : -1000000000000000 ≤ s) (hlen : l.length ≤ 1000000000000000) : ∃ z, Ev (fun k => laws_szArticleS.f k l s) z ∧ (¬ z < 0 → (l.length : Int) ≤ s ∧ ∀ c ∈ l, c.f0.size ≤ 1000000) := by
  have e : wrap64 (s - (l.length : Int)) = s - (l.length : Int) := w64 (by omega) (by omega)
  by_cases a : s - (l.length : Int) < 0
  · exact ⟨-1, ev_pos (by rw [e]; exact a) (Ev.now _), fun h => absurd h (by decide)⟩
  · obtain ⟨z, hz, hh⟩ := szArticleS_l0 l (by omega) hs l 0 (s - (l.length : Int)) rfl (by omega) (by omega)
    exact ⟨z, ev_neg (by rw [e]; exact a) (by rw [e]; exact hz), fun h => ⟨by omega, hh h⟩⟩

theorem toInt64SF_l1 (l : List Int) (hl : l.length ≤ 1000000000) : ∀ (d : Nat) (x : List Int) (j : Nat), x.length - j = d → x.length ≤ 3000000000 → l.length ≤ j → j ≤ x.length → x.take l.length = l →
    ∃ L, Ev (fun k => laws_toInt64SF.l1 k l x (j : Int)) L ∧ L.length = x.length ∧ L.take l.length = l := by
  intro d
  induction d with
  | zero =>
    intro x j hd hx hj hjx ht
    exact ⟨x, Ev.step (fun k => laws_toInt64SF.l1.eq_2 ..) (ev_neg (by omega) (ev_pos (by omega) (ev_pos (by omega) (Ev.now _)))), rfl, ht⟩
  | succ d ih =>
    intro x j hd hx hj hjx ht
    obtain ⟨L, e, h1, h2⟩ := ih (x.set j (-7000000000000000101)) (j + 1) (by rw [List.length_set]; omega) (by rw [List.length_set]; omega) (by omega) (by rw [List.length_set]; omega) (by rw [take_set_ge _ _ _ _ hj, ht])
    refine ⟨L, Ev.step (fun k => laws_toInt64SF.l1.eq_2 ..) (ev_pos (by omega) (ev_pos (by omega) ?_)), by rw [h1, List.length_set], h2⟩
    rw [Int.toNat_natCast, w64 (n := (j : Int) + 1) (by omega) (by omega)]
    exact e
theorem toInt64SF_l0 (l : List Int) (hl : l.length ≤ 1000000000) : ∀ (R : List Int) (i : Nat) (x : List Int), l.drop i = R → i ≤ l.length → l.length ≤ x.length → x.length ≤ 3000000000 → x.take i = l.take i →
    ∃ L, Ev (fun k => laws_toInt64SF.l0 k l x (i : Int)) L ∧ L.length = x.length ∧ L.take l.length = l := by
  intro R
  induction R with
  | nil =>
    intro i x h hi hx hx' ht
    have h1 := drop_nil h
    obtain ⟨L, e, h2⟩ := toInt64SF_l1 l hl (x.length - l.length) x l.length rfl hx' (Nat.le_refl _) hx (by rw [show l.length = i by omega, ht, List.take_of_length_le h1])
    exact ⟨L, Ev.step (fun k => laws_toInt64SF.l0.eq_2 ..) (ev_neg (by omega) e), h2⟩
  | cons c R ih =>
    intro i x h hi hx hx' ht
    obtain ⟨h1, h2, h3⟩ := rd_drop h
    obtain ⟨_, hc, _⟩ := drop_cons h
    obtain ⟨L, e, h4, h5⟩ := ih (i + 1) (x.set i c) h3 (by omega) (by rw [List.length_set]; omega) (by rw [List.length_set]; omega) (take_set_next x l i c (by omega) hc ht)
    refine ⟨L, Ev.step (fun k => laws_toInt64SF.l0.eq_2 ..) (ev_pos (by omega) (ev_pos (by omega) (ev_pos (by omega) ?_))), by rw [h4, List.length_set], h5⟩
    rw [h2, Int.toNat_natCast, w64 (n := (i : Int) + 1) (by omega) (by omega)]
    exact e
theorem toInt64SF_ev (l : List Int) (hl : l.length ≤ 1000000000) {t : Int} (ht : laws_roomBehind.f (l.length : Int) = some t) (t0 : 0 ≤ t) (t1 : t ≤ 1000000000) : ∃ L, Ev (fun k => laws_toInt64SF.f k l false) L ∧ (L.length : Int) = l.length + t ∧ L.take l.length = l := by
  obtain ⟨L, e, h1, h2⟩ := toInt64SF_l0 l hl l 0 (List.replicate ((l.length : Int) + t).toNat 0) rfl (by omega) (by rw [List.length_replicate]; omega) (by rw [List.length_replicate]; omega) (by simp)
  rw [List.length_replicate] at h1
  refine ⟨L, ?_, by omega, h2⟩
  refine ev_neg (by decide) (Ev.step (fun k => laws_toInt64SF.j0.eq_2 ..) (ev_neg (by decide) (ev_bind0 ht ?_)))
  rw [w64 (n := (l.length : Int) + t) (by omega) (by omega)]
  exact ev_pos (by omega) (ev_pos (by omega) e)
/-! #### the same, its room forgotten -/
theorem toInt64S_l1 (l : List Int) (hl : l.length ≤ 1000000000) : ∀ (d : Nat) (x : List Int) (j : Nat), x.length - j = d → x.length ≤ 3000000000 → l.length ≤ j → j ≤ x.length → x.take l.length = l →
    Ev (fun k => laws_toInt64S.l1 k l x (j : Int)) l := by
  intro d
  induction d with
  | zero =>
    intro x j hd hx hj hjx ht
    exact Ev.step (fun k => laws_toInt64S.l1.eq_2 ..) (ev_neg (by omega) (ev_pos (by omega) (ev_pos (by omega) (ev_ret (by rw [Int.toNat_natCast, ht])))))
  | succ d ih =>
    intro x j hd hx hj hjx ht
    have e := ih (x.set j (-7000000000000000101)) (j + 1) (by rw [List.length_set]; omega) (by rw [List.length_set]; omega) (by omega) (by rw [List.length_set]; omega) (by rw [take_set_ge _ _ _ _ hj, ht])
    refine Ev.step (fun k => laws_toInt64S.l1.eq_2 ..) (ev_pos (by omega) (ev_pos (by omega) ?_))
    rw [Int.toNat_natCast, w64 (n := (j : Int) + 1) (by omega) (by omega)]
    exact e
theorem toInt64S_l0 (l : List Int) (hl : l.length ≤ 1000000000) : ∀ (R : List Int) (i : Nat) (x : List Int), l.drop i = R → i ≤ l.length → l.length ≤ x.length → x.length ≤ 3000000000 → x.take i = l.take i →
    Ev (fun k => laws_toInt64S.l0 k l x (i : Int)) l := by
  intro R
  induction R with
  | nil =>
    intro i x h hi hx hx' ht
    have h1 := drop_nil h
    have e := toInt64S_l1 l hl (x.length - l.length) x l.length rfl hx' (Nat.le_refl _) hx (by rw [show l.length = i by omega, ht, List.take_of_length_le h1])
    exact Ev.step (fun k => laws_toInt64S.l0.eq_2 ..) (ev_neg (by omega) e)
  | cons c R ih =>
    intro i x h hi hx hx' ht
    obtain ⟨h1, h2, h3⟩ := rd_drop h
    obtain ⟨_, hc, _⟩ := drop_cons h
    have e := ih (i + 1) (x.set i c) h3 (by omega) (by rw [List.length_set]; omega) (by rw [List.length_set]; omega) (take_set_next x l i c (by omega) hc ht)
    refine Ev.step (fun k => laws_toInt64S.l0.eq_2 ..) (ev_pos (by omega) (ev_pos (by omega) (ev_pos (by omega) ?_)))
    rw [h2, Int.toNat_natCast, w64 (n := (i : Int) + 1) (by omega) (by omega)]
    exact e
theorem toInt64S_bare (l : List Int) (hl : l.length ≤ 1000000000) : Ev (fun k => laws_toInt64S.f k l true) l := by
  refine ev_pos rfl (Ev.step (fun k => laws_toInt64S.j0.eq_2 ..) ?_)
  by_cases a : l.length = 0
  · exact ev_pos (by simp [a]) (ev_ret (by symm; exact List.length_eq_zero_iff.1 a))
  · obtain ⟨t, et, t0, t1⟩ := room_some l.length hl
    refine ev_neg (by simp; intro h; simp [h] at a) (ev_bind0 et ?_)
    rw [w64 (n := (l.length : Int) + t) (by omega) (by omega)]
    refine ev_pos (by omega) (ev_pos (by omega) ?_)
    exact toInt64S_l0 l hl l 0 (List.replicate ((l.length : Int) + t).toNat 0) rfl (by omega) (by rw [List.length_replicate]; omega) (by rw [List.length_replicate]; omega) (by simp)

theorem takeA {w : World} {A : Option Addr} {n : Nat} {M L : List S26} (hLt : L.take n = M) (hLl : n ≤ L.length) (h : Kd.C k26 w A L.length L) : Kd.C k26 w A M.length M := by
  have := Kd.C_take (m := n) h hLl
  rwa [hLt] at this
theorem takeI {w : World} {A : Option Addr} {n : Nat} {M L : List Int} (hLt : L.take n = M) (hLl : n ≤ L.length) (h : Kd.C (Kd.int .i64) w A L.length L) : Kd.C (Kd.int .i64) w A M.length M := by
  have := Kd.C_take (m := n) h hLl
  rwa [hLt] at this
theorem ne_base {α : Type} {β : Type} {d : Kd α} {d' : Kd β} {e e' b : Nat} {ok ok' : Nat → Prop} {w w1 : World} {u v : Value} {xs : List α} {ys : List β} (hu : d.R e w b ok u xs) (hv : d'.R e' w1 w.heap.size ok' v ys) : ∀ k, u.ownBlock = some k → some k ≠ v.ownBlock := by
  intro k hk he
  have h1 := ((Kd.R_bound hu).1 k hk).2.2.1
  have h2 := ((Kd.R_bound hv).1 k he.symm).2.1
  omega
theorem own_same (A : Option Addr) (n m c : Nat) : (Value.slice A n c).ownBlock = (Value.slice A m c).ownBlock := by cases A <;> rfl
theorem R_keptT {α : Type} {d : Kd α} {e b : Nat} {ok : Nat → Prop} {W W2 : World} {S : Nat → Prop} {v : Value} {xs : List α} (hE : d.E = []) (h : d.R e W b ok v xs) (hk : Kept W W2 S) (hne : ∀ k, v.ownBlock = some k → ¬ S k) : d.R e W2 b (fun _ => True) v xs :=
  Kd.R_mono (Kd.R_kept (Kd.R_tight hE h) hk (fun k hk2 => hne k hk2.symm)) (fun _ _ => trivial)
theorem takeRA {w : World} {b c : Nat} {ok : Nat → Prop} {A : Option Addr} {n : Nat} {M L : List S26} (hLt : L.take n = M) (hLl : n ≤ L.length) (h : Kd.R k26 26 w b ok (.slice A L.length c) L) : Kd.R k26 26 w b (fun k_ => some k_ = (.slice A n c : Value).ownBlock) (.slice A n c) M := by
  have := Kd.R_take (m := n) h hLl
  rw [hLt] at this
  exact Kd.R_tight rfl this
theorem takeRI {w : World} {b c : Nat} {ok : Nat → Prop} {A : Option Addr} {n : Nat} {M L : List Int} (hLt : L.take n = M) (hLl : n ≤ L.length) (h : Kd.R (Kd.int .i64) 2 w b ok (.slice A L.length c) L) : Kd.R (Kd.int .i64) 2 w b (fun k_ => some k_ = (.slice A n c : Value).ownBlock) (.slice A n c) M := by
  have := Kd.R_take (m := n) h hLl
  rw [hLt] at this
  exact Kd.R_tight rfl this
theorem drawn_below {w w' : World} (h : Drawn0 w w') : Below w.heap.size w w' := by
  obtain ⟨n, rfl⟩ := h
  exact pw_below_drewN (Below.refl _ _) n
set_option maxHeartbeats 40000000 in
set_option maxRecDepth 100000 in
theorem go (k : Nat) (A0 : Option Addr) (c0 : Nat) (l0 : List S23) (A1 : Option Addr) (c1 : Nat) (l1 : List Int) (r : List Int) (t : Int) (M0 L0 Mx0 : List S26) (L1 Mx1 Mg : List Int) (z ji kx0 kx1 km room0 room1 : Int) (hji : wrap64 (1000000 - (l1.length : Int)) = ji) (w : World) (hr0 : Kd.C k23 w A0 l0.length l0) (hc0 : l0.length ≤ c0) (hr1 : Kd.C (Kd.int .i64) w A1 l1.length l1) (hc1 : l1.length ≤ c1) (hn0 : l0.length ≤ 1000000) (hn1 : l1.length ≤ 1000000) (hsz : laws_szArticleS.f k l0 ji = some z) (hz : ¬ z < 0) (hM0 : M0.length = l0.length) (hfull0 : laws_toArticleSF.f k l0 false = some L0) (hLt0 : L0.take l0.length = M0) (hLl_0 : l0.length ≤ L0.length) (hLr0 : (L0.length : Int) = l0.length + room0) (hroom0 : laws_roomBehind.f (l0.length : Int) = some room0) (hr0_0 : 0 ≤ room0) (hr0_1 : room0 ≤ 1000000000000) (hbare0 : laws_toArticleS.f k l0 true = some M0) (heq0 : laws_eqArticleS.f k L0 L0 = some true) (hfull1 : laws_toInt64SF.f k l1 false = some L1) (hLt1 : L1.take l1.length = l1) (hLl_1 : l1.length ≤ L1.length) (hLr1 : (L1.length : Int) = l1.length + room1) (hroom1 : laws_roomBehind.f (l1.length : Int) = some room1) (hr1_0 : 0 ≤ room1) (hr1_1 : room1 ≤ 1000000000000) (hbare1 : laws_toInt64S.f k l1 true = some l1) (heq1 : laws_eqInt64S.f k L1 L1 = some true) (hspec : spec_MixedGroups.f k M0 l1 = some (r, t)) (himp : impl_MixedGroups.f k M0 l1 = some (r, t)) (heqr : laws_eqInt64S.f k r r = some true) (hmx0 : laws_markArticleS.f k M0 101 = some (kx0, Mx0)) (hmx1 : laws_markInt64S.f k l1 kx0 = some (kx1, Mx1)) (hkx1 : 0 ≤ kx1) (hmg : laws_markInt64S.f k r 101 = some (km, Mg)) (hkm : 0 ≤ km) (hMl : Mg.length = r.length) (hhe : laws_heldInt64S.f k Mg 101 = some km) :
    Calls Try.prog 6 #[.slice A0 l0.length c0, .slice A1 l1.length c1] w fun e w' => e = .returned (.bool true) ∧ Below w.heap.size w w' := by
  have takeC0 : ∀ {w : World} {A : Option Addr}, Kd.C k26 w A L0.length L0 → Kd.C k26 w A M0.length M0 := takeA hLt0 hLl_0
  have takeC1 : ∀ {w : World} {A : Option Addr}, Kd.C (Kd.int .i64) w A L1.length L1 → Kd.C (Kd.int .i64) w A l1.length l1 := takeI hLt1 hLl_1
  have hLl0 : M0.length ≤ L0.length := by omega
  have hLl1 : l1.length ≤ L1.length := hLl_1
  have HR0 := Aside0.mk hr0
  have HC0 := Aside0.mk hc0
  have HR1 := Aside0.mk hr1
  have HC1 := Aside0.mk hc1
  have HB := Aside0.mk (Below.refl w.heap.size w)
  have cz0 : decide (z < 0) = false := decide_eq_false hz
  have hjiw : IntKind.i64.wrap (1000000 - (l1.length : Int)) = ji := (i64_w _).trans hji
  replace hn0 : l0.length ≤ 1000000000000 := by omega
  replace hn1 : l1.length ≤ 1000000000000 := by omega
  have c2b0 : decide (kx1 < 0) = false := decide_eq_false (by omega)
  have c3b0 : decide (km < 0) = false := decide_eq_false (by omega)
  have qt0 : (t == t) = true := by simp
  have qt1 : (t != t) = false := by simp
  have qm0 : (km == km) = true := by simp
  have qm1 : (km != km) = false := by simp
  have chspec : ∀ (A : Option Addr) (c : Nat) (B : Option Addr) (d : Nat) (w : World), Kd.C k26 w A M0.length M0 → M0.length ≤ c → Kd.C (Kd.int .i64) w B l1.length l1 → l1.length ≤ d → Calls Try.prog 29 #[.slice A l0.length c, .slice B l1.length d] w fun e w' => ∃ v0_ : Value, e = .returned (.tuple #[v0_, .int .i64 t]) ∧ Kd.R (Kd.int .i64) 2 w' w.heap.size (fun _ => True) v0_ r ∧ Below w.heap.size w w' := by
    intro A c B d w h1 h2 h3 h4
    rw [← hM0]
    exact spec_MixedGroups.calls k A c M0 B d l1 r t w h1 h2 h3 h4 hspec
  have chimpl : ∀ (A : Option Addr) (c : Nat) (B : Option Addr) (d : Nat) (w : World), Kd.C k26 w A M0.length M0 → M0.length ≤ c → Kd.C (Kd.int .i64) w B l1.length l1 → l1.length ≤ d → Calls Try.prog 32 #[.slice A l0.length c, .slice B l1.length d] w fun e w' => ∃ v0_ : Value, e = .returned (.tuple #[v0_, .int .i64 t]) ∧ Kd.R (Kd.int .i64) 2 w' w.heap.size (fun _ => True) v0_ r ∧ Below w.heap.size w w' := by
    intro A c B d w h1 h2 h3 h4
    rw [← hM0]
    exact impl_MixedGroups.calls k A c M0 B d l1 r t w h1 h2 h3 h4 himp
  have hheld : ∀ (A : Option Addr) (c : Nat) (w : World), Kd.C (Kd.int .i64) w A Mg.length Mg → Mg.length ≤ c → Calls Try.prog 38 #[.slice A r.length c, .int .i64 101] w fun e w' => e = .returned (.int .i64 km) ∧ Drawn0 w w' := by
    intro A c w h1 h2
    rw [← hMl]
    exact laws_heldInt64S.calls k A c Mg 101 km w h1 h2 hhe
  clear hr0 hc0 hr1 hc1 hkx1 hkm hhe hz
  go_enter Try.func6, Try.ntmps6
  go_wp2_with (first | ((with_reducible refine gate_callee (f := 28) rfl ?_); refine goesL_ (some 22) rfl rfl Try.func28 (by kernel_rfl) rfl #[.slice A0 l0.length c0, .int .i64 ji] rfl (by (try simp only [List.map_toArray, List.map_cons, List.map_nil]); first | done | rfl | (simp only [List.length_drop, List.length_take]; rfl) | (go_simp; done) | (simp; done) | (simp; rfl)) ?_; (with_reducible refine (laws_szArticleS.calls k _ _ l0 ji z _ ?side1 ?side2 hsz).mono ?_); (case side1 => repeat (first | exact (Kd.C_below HR0.out (by repeat (first | (with_reducible first | exact HB.out | apply below_alloc | apply pw_below_drewN | apply below_drew1) | exact HB.out))) | (with_reducible refine Kd.C_alloc ?_ _) | (with_reducible refine Kd.C_drewN ?_ _) | (with_reducible refine Kd.C_drew ?_))); (case side2 => exact HC0.out); rintro e wo0 ⟨rfl, hb⟩; refine ⟨_, rfl, ?_⟩; have nb_ := Aside0.mk (below_step (by repeat (first | (with_reducible first | exact HB.out | apply below_alloc | apply pw_below_drewN | apply below_drew1) | exact HB.out)) hb); clear HB; have HB := nb_; clear nb_; clear hb) | ((with_reducible refine gate_callee (f := 30) rfl ?_); refine goesL_ (some 27) rfl rfl Try.func30 (by kernel_rfl) rfl #[.slice A0 l0.length c0, .bool false] rfl (by (try simp only [List.map_toArray, List.map_cons, List.map_nil]); first | done | rfl | (simp only [List.length_drop, List.length_take]; rfl) | (go_simp; done) | (simp; done) | (simp; rfl)) ?_; (with_reducible refine (laws_toArticleSF.calls k _ _ l0 false L0 _ ?side1 ?side2 hfull0).mono ?_); (case side1 => repeat (first | exact (Kd.C_below HR0.out (by repeat (first | (with_reducible first | exact HB.out | apply below_alloc | apply pw_below_drewN | apply below_drew1) | exact HB.out))) | (with_reducible refine Kd.C_alloc ?_ _) | (with_reducible refine Kd.C_drewN ?_ _) | (with_reducible refine Kd.C_drew ?_))); (case side2 => exact HC0.out); rintro e wp ⟨Ap, cp, rfl, hR, _, hb⟩; refine ⟨_, rfl, ?_⟩; have HLp := Aside0.mk (Kd.R_reads' hR).2.1; have HKp := Aside0.mk (Kd.R_reads' hR).2.2; clear hR; have nb_ := Aside0.mk (below_step (by repeat (first | (with_reducible first | exact HB.out | apply below_alloc | apply pw_below_drewN | apply below_drew1) | exact HB.out)) hb); clear HB; have HB := nb_; clear nb_; clear hb) | ((with_reducible refine gate_callee (f := 31) rfl ?_); refine goesL_ (some 29) rfl rfl Try.func31 (by kernel_rfl) rfl #[.slice A1 l1.length c1, .bool false] rfl (by (try simp only [List.map_toArray, List.map_cons, List.map_nil]); first | done | rfl | (simp only [List.length_drop, List.length_take]; rfl) | (go_simp; done) | (simp; done) | (simp; rfl)) ?_; (with_reducible refine (laws_toInt64SF.calls k _ _ l1 false L1 _ ?side1 ?side2 hfull1).mono ?_); (case side1 => repeat (first | exact (Kd.C_below HR1.out (by repeat (first | (with_reducible first | exact HB.out | apply below_alloc | apply pw_below_drewN | apply below_drew1) | exact HB.out))) | (with_reducible refine Kd.C_alloc ?_ _) | (with_reducible refine Kd.C_drewN ?_ _) | (with_reducible refine Kd.C_drew ?_))); (case side2 => exact HC1.out); rintro e wq ⟨Aq, cq, rfl, hR, _, hb⟩; refine ⟨_, rfl, ?_⟩; have HLq := Aside0.mk (Kd.R_reads' hR).2.1; have HKq := Aside0.mk (Kd.R_reads' hR).2.2; clear hR; have n0_ := Aside0.mk (Kd.C_below (by repeat (first | exact HKp.out | (with_reducible refine Kd.C_alloc ?_ _) | (with_reducible refine Kd.C_drewN ?_ _) | (with_reducible refine Kd.C_drew ?_))) hb); have nb_ := Aside0.mk (below_step (by repeat (first | (with_reducible first | exact HB.out | apply below_alloc | apply pw_below_drewN | apply below_drew1) | exact HB.out)) hb); clear HKp; clear HB; have HKp := n0_; have HB := nb_; clear n0_ nb_; clear hb) | ((with_reducible refine gate_callee (f := 29) rfl ?_); refine goesL_ (some 30) rfl rfl Try.func29 (by kernel_rfl) rfl #[.slice Ap l0.length cp, .slice Aq l1.length cq] rfl (by (try simp only [List.map_toArray, List.map_cons, List.map_nil]); first | done | rfl | (simp only [List.length_drop, List.length_take]; rfl) | (go_simp; done) | (simp; done) | (simp; rfl)) ?_; (with_reducible refine (chspec _ _ _ _ _ ?side1 ?side2 ?side3 ?side4).mono ?_); (case side1 => repeat (first | exact (takeC0 HKp.out) | (with_reducible refine Kd.C_alloc ?_ _) | (with_reducible refine Kd.C_drewN ?_ _) | (with_reducible refine Kd.C_drew ?_))); (case side2 => exact (Nat.le_trans hLl0 HLp.out)); (case side3 => repeat (first | exact (takeC1 HKq.out) | (with_reducible refine Kd.C_alloc ?_ _) | (with_reducible refine Kd.C_drewN ?_ _) | (with_reducible refine Kd.C_drew ?_))); (case side4 => exact (Nat.le_trans hLl1 HLq.out)); rintro e wq_ ⟨vw, rfl, hR, hb⟩; refine ⟨_, rfl, ?_⟩; obtain ⟨Aw, cw, ew⟩ := Kd.R_slice hR; subst ew; have HW := Aside0.mk (Kd.R_lower hR (below_size (by repeat (first | (with_reducible first | exact HB.out | apply below_alloc | apply pw_below_drewN | apply below_drew1) | exact HB.out)))); clear hR; have n0_ := Aside0.mk (Kd.C_below (by repeat (first | exact HKp.out | (with_reducible refine Kd.C_alloc ?_ _) | (with_reducible refine Kd.C_drewN ?_ _) | (with_reducible refine Kd.C_drew ?_))) hb); have n1_ := Aside0.mk (Kd.C_below (by repeat (first | exact HKq.out | (with_reducible refine Kd.C_alloc ?_ _) | (with_reducible refine Kd.C_drewN ?_ _) | (with_reducible refine Kd.C_drew ?_))) hb); have nb_ := Aside0.mk (below_step (by repeat (first | (with_reducible first | exact HB.out | apply below_alloc | apply pw_below_drewN | apply below_drew1) | exact HB.out)) hb); clear HKp; clear HKq; clear HB; have HKp := n0_; have HKq := n1_; have HB := nb_; clear n0_ n1_ nb_; clear hb) | ((with_reducible refine gate_callee (f := 30) rfl ?_); refine goesL_ (some 34) rfl rfl Try.func30 (by kernel_rfl) rfl #[.slice A0 l0.length c0, .bool false] rfl (by (try simp only [List.map_toArray, List.map_cons, List.map_nil]); first | done | rfl | (simp only [List.length_drop, List.length_take]; rfl) | (go_simp; done) | (simp; done) | (simp; rfl)) ?_; (with_reducible refine (laws_toArticleSF.calls k _ _ l0 false L0 _ ?side1 ?side2 hfull0).mono ?_); (case side1 => repeat (first | exact (Kd.C_below HR0.out (by repeat (first | (with_reducible first | exact HB.out | apply below_alloc | apply pw_below_drewN | apply below_drew1) | exact HB.out))) | (with_reducible refine Kd.C_alloc ?_ _) | (with_reducible refine Kd.C_drewN ?_ _) | (with_reducible refine Kd.C_drew ?_))); (case side2 => exact HC0.out); rintro e wx0 ⟨Ax0, cx0, rfl, hR, _, hb⟩; refine ⟨_, rfl, ?_⟩; have HLx0 := Aside0.mk (Kd.R_reads' hR).2.1; have NWX0 := Aside0.mk (ne_base (by (with_reducible repeat (first | apply Kd.R_alloc | apply Kd.R_drewN | apply Kd.R_drew)); exact HW.out) hR); have HX0 := Aside0.mk (Kd.R_lower hR (below_size (by repeat (first | (with_reducible first | exact HB.out | apply below_alloc | apply pw_below_drewN | apply below_drew1) | exact HB.out)))); clear hR; have n0_ := Aside0.mk (Kd.R_below (by (with_reducible repeat (first | apply Kd.R_alloc | apply Kd.R_drewN | apply Kd.R_drew)); exact HW.out) hb); have nb_ := Aside0.mk (below_step (by repeat (first | (with_reducible first | exact HB.out | apply below_alloc | apply pw_below_drewN | apply below_drew1) | exact HB.out)) hb); clear HW; clear HB; have HW := n0_; have HB := nb_; clear n0_ nb_; clear hb) | ((with_reducible refine gate_callee (f := 31) rfl ?_); refine goesL_ (some 36) rfl rfl Try.func31 (by kernel_rfl) rfl #[.slice A1 l1.length c1, .bool false] rfl (by (try simp only [List.map_toArray, List.map_cons, List.map_nil]); first | done | rfl | (simp only [List.length_drop, List.length_take]; rfl) | (go_simp; done) | (simp; done) | (simp; rfl)) ?_; (with_reducible refine (laws_toInt64SF.calls k _ _ l1 false L1 _ ?side1 ?side2 hfull1).mono ?_); (case side1 => repeat (first | exact (Kd.C_below HR1.out (by repeat (first | (with_reducible first | exact HB.out | apply below_alloc | apply pw_below_drewN | apply below_drew1) | exact HB.out))) | (with_reducible refine Kd.C_alloc ?_ _) | (with_reducible refine Kd.C_drewN ?_ _) | (with_reducible refine Kd.C_drew ?_))); (case side2 => exact HC1.out); rintro e wx1 ⟨Ax1, cx1, rfl, hR, _, hb⟩; refine ⟨_, rfl, ?_⟩; have HLx1 := Aside0.mk (Kd.R_reads' hR).2.1; have NWX1 := Aside0.mk (ne_base (by (with_reducible repeat (first | apply Kd.R_alloc | apply Kd.R_drewN | apply Kd.R_drew)); exact HW.out) hR); have NX01 := Aside0.mk (ne_base (by (with_reducible repeat (first | apply Kd.R_alloc | apply Kd.R_drewN | apply Kd.R_drew)); exact HX0.out) hR); have HX1 := Aside0.mk (Kd.R_lower hR (below_size (by repeat (first | (with_reducible first | exact HB.out | apply below_alloc | apply pw_below_drewN | apply below_drew1) | exact HB.out)))); clear hR; have n0_ := Aside0.mk (Kd.R_below (by (with_reducible repeat (first | apply Kd.R_alloc | apply Kd.R_drewN | apply Kd.R_drew)); exact HW.out) hb); have n1_ := Aside0.mk (Kd.R_below (by (with_reducible repeat (first | apply Kd.R_alloc | apply Kd.R_drewN | apply Kd.R_drew)); exact HX0.out) hb); have nb_ := Aside0.mk (below_step (by repeat (first | (with_reducible first | exact HB.out | apply below_alloc | apply pw_below_drewN | apply below_drew1) | exact HB.out)) hb); clear HW; clear HX0; clear HB; have HW := n0_; have HX0 := n1_; have HB := nb_; clear n0_ n1_ nb_; clear hb) | ((with_reducible refine gate_callee (f := 32) rfl ?_); refine goesL_ (some 40) rfl rfl Try.func32 (by kernel_rfl) rfl #[.slice Ax0 l0.length cx0, .slice Ax1 l1.length cx1] rfl (by (try simp only [List.map_toArray, List.map_cons, List.map_nil]); first | done | rfl | (simp only [List.length_drop, List.length_take]; rfl) | (go_simp; done) | (simp; done) | (simp; rfl)) ?_; (with_reducible refine (chimpl _ _ _ _ _ ?side1 ?side2 ?side3 ?side4).mono ?_); (case side1 => exact (takeC0 (Kd.R_reads' (by (with_reducible repeat (first | apply Kd.R_alloc | apply Kd.R_drewN | apply Kd.R_drew)); exact HX0.out)).2.2)); (case side2 => exact (Nat.le_trans hLl0 HLx0.out)); (case side3 => exact (takeC1 (Kd.R_reads' (by (with_reducible repeat (first | apply Kd.R_alloc | apply Kd.R_drewN | apply Kd.R_drew)); exact HX1.out)).2.2)); (case side4 => exact (Nat.le_trans hLl1 HLx1.out)); rintro e wr ⟨vg, rfl, hR, hb⟩; refine ⟨_, rfl, ?_⟩; obtain ⟨Ag, cg, eg⟩ := Kd.R_slice hR; subst eg; have NWG := Aside0.mk (ne_base (by (with_reducible repeat (first | apply Kd.R_alloc | apply Kd.R_drewN | apply Kd.R_drew)); exact HW.out) hR); have NXG0 := Aside0.mk (ne_base (by (with_reducible repeat (first | apply Kd.R_alloc | apply Kd.R_drewN | apply Kd.R_drew)); exact HX0.out) hR); have NXG1 := Aside0.mk (ne_base (by (with_reducible repeat (first | apply Kd.R_alloc | apply Kd.R_drewN | apply Kd.R_drew)); exact HX1.out) hR); have HG := Aside0.mk (Kd.R_lower hR (below_size (by repeat (first | (with_reducible first | exact HB.out | apply below_alloc | apply pw_below_drewN | apply below_drew1) | exact HB.out)))); clear hR; have n0_ := Aside0.mk (Kd.R_below (by (with_reducible repeat (first | apply Kd.R_alloc | apply Kd.R_drewN | apply Kd.R_drew)); exact HW.out) hb); have n1_ := Aside0.mk (Kd.R_below (by (with_reducible repeat (first | apply Kd.R_alloc | apply Kd.R_drewN | apply Kd.R_drew)); exact HX0.out) hb); have n2_ := Aside0.mk (Kd.R_below (by (with_reducible repeat (first | apply Kd.R_alloc | apply Kd.R_drewN | apply Kd.R_drew)); exact HX1.out) hb); have nb_ := Aside0.mk (below_step (by repeat (first | (with_reducible first | exact HB.out | apply below_alloc | apply pw_below_drewN | apply below_drew1) | exact HB.out)) hb); clear HW; clear HX0; clear HX1; clear HB; have HW := n0_; have HX0 := n1_; have HX1 := n2_; have HB := nb_; clear n0_ n1_ n2_ nb_; clear hb) | ((with_reducible refine gate_callee (f := 33) rfl ?_); refine goesL_ (some 45) rfl rfl Try.func33 (by kernel_rfl) rfl #[.slice Ag r.length cg, .slice Aw r.length cw] rfl (by (try simp only [List.map_toArray, List.map_cons, List.map_nil]); first | done | rfl | (simp only [List.length_drop, List.length_take]; rfl) | (go_simp; done) | (simp; done) | (simp; rfl)) ?_; (with_reducible refine (laws_eqInt64S.calls k _ _ r _ _ r true _ ?side1 ?side2 ?side3 ?side4 heqr).mono ?_); (case side1 => exact (Kd.R_reads' (by (with_reducible repeat (first | apply Kd.R_alloc | apply Kd.R_drewN | apply Kd.R_drew)); exact HG.out)).2.2); (case side2 => exact (Kd.R_reads' HG.out).2.1); (case side3 => exact (Kd.R_reads' (by (with_reducible repeat (first | apply Kd.R_alloc | apply Kd.R_drewN | apply Kd.R_drew)); exact HW.out)).2.2); (case side4 => exact (Kd.R_reads' HW.out).2.1); rintro e we1 ⟨rfl, hd⟩; have hb := drawn_below hd; clear hd; refine ⟨_, rfl, ?_⟩; have n0_ := Aside0.mk (Kd.R_below (by (with_reducible repeat (first | apply Kd.R_alloc | apply Kd.R_drewN | apply Kd.R_drew)); exact HW.out) hb); have n1_ := Aside0.mk (Kd.R_below (by (with_reducible repeat (first | apply Kd.R_alloc | apply Kd.R_drewN | apply Kd.R_drew)); exact HX0.out) hb); have n2_ := Aside0.mk (Kd.R_below (by (with_reducible repeat (first | apply Kd.R_alloc | apply Kd.R_drewN | apply Kd.R_drew)); exact HX1.out) hb); have n3_ := Aside0.mk (Kd.R_below (by (with_reducible repeat (first | apply Kd.R_alloc | apply Kd.R_drewN | apply Kd.R_drew)); exact HG.out) hb); have nb_ := Aside0.mk (below_step (by repeat (first | (with_reducible first | exact HB.out | apply below_alloc | apply pw_below_drewN | apply below_drew1) | exact HB.out)) hb); clear HW; clear HX0; clear HX1; clear HG; clear HB; have HW := n0_; have HX0 := n1_; have HX1 := n2_; have HG := n3_; have HB := nb_; clear n0_ n1_ n2_ n3_ nb_; clear hb) | ((with_reducible refine gate_callee (f := 30) rfl ?_); refine goesL_ (some 54) rfl rfl Try.func30 (by kernel_rfl) rfl #[.slice A0 l0.length c0, .bool false] rfl (by (try simp only [List.map_toArray, List.map_cons, List.map_nil]); first | done | rfl | (simp only [List.length_drop, List.length_take]; rfl) | (go_simp; done) | (simp; done) | (simp; rfl)) ?_; (with_reducible refine (laws_toArticleSF.calls k _ _ l0 false L0 _ ?side1 ?side2 hfull0).mono ?_); (case side1 => repeat (first | exact (Kd.C_below HR0.out (by repeat (first | (with_reducible first | exact HB.out | apply below_alloc | apply pw_below_drewN | apply below_drew1) | exact HB.out))) | (with_reducible refine Kd.C_alloc ?_ _) | (with_reducible refine Kd.C_drewN ?_ _) | (with_reducible refine Kd.C_drew ?_))); (case side2 => exact HC0.out); rintro e wy0 ⟨Ay0, cy0, rfl, hR, _, hb⟩; refine ⟨_, rfl, ?_⟩; have HLy0 := Aside0.mk (Kd.R_reads' hR).2.1; have HKy0 := Aside0.mk (Kd.R_reads' hR).2.2; clear hR; have n0_ := Aside0.mk (Kd.R_below (by (with_reducible repeat (first | apply Kd.R_alloc | apply Kd.R_drewN | apply Kd.R_drew)); exact HW.out) hb); have n1_ := Aside0.mk (Kd.R_below (by (with_reducible repeat (first | apply Kd.R_alloc | apply Kd.R_drewN | apply Kd.R_drew)); exact HX0.out) hb); have n2_ := Aside0.mk (Kd.R_below (by (with_reducible repeat (first | apply Kd.R_alloc | apply Kd.R_drewN | apply Kd.R_drew)); exact HX1.out) hb); have n3_ := Aside0.mk (Kd.R_below (by (with_reducible repeat (first | apply Kd.R_alloc | apply Kd.R_drewN | apply Kd.R_drew)); exact HG.out) hb); have nb_ := Aside0.mk (below_step (by repeat (first | (with_reducible first | exact HB.out | apply below_alloc | apply pw_below_drewN | apply below_drew1) | exact HB.out)) hb); clear HW; clear HX0; clear HX1; clear HG; clear HB; have HW := n0_; have HX0 := n1_; have HX1 := n2_; have HG := n3_; have HB := nb_; clear n0_ n1_ n2_ n3_ nb_; clear hb) | ((with_reducible refine gate_callee (f := 34) rfl ?_); refine goesL_ (some 55) rfl rfl Try.func34 (by kernel_rfl) rfl #[.slice Ax0 l0.length cx0, .slice Ay0 l0.length cy0] rfl (by (try simp only [List.map_toArray, List.map_cons, List.map_nil]); first | done | rfl | (simp only [List.length_drop, List.length_take]; rfl) | (go_simp; done) | (simp; done) | (simp; rfl)) ?_; (with_reducible refine (laws_intactArticleSF.calls k l0.length _ _ L0 _ _ L0 room0 _ ?side1 ?side2 ?side3 ?side4 hroom0 hn0 hr0_0 hr0_1 hLr0 hLr0 heq0).mono ?_); (case side1 => exact (Kd.R_reads' (by (with_reducible repeat (first | apply Kd.R_alloc | apply Kd.R_drewN | apply Kd.R_drew)); exact HX0.out)).2.2); (case side2 => exact HLx0.out); (case side3 => repeat (first | exact HKy0.out | (with_reducible refine Kd.C_alloc ?_ _) | (with_reducible refine Kd.C_drewN ?_ _) | (with_reducible refine Kd.C_drew ?_))); (case side4 => exact HLy0.out); rintro e ws0 ⟨rfl, hb⟩; refine ⟨_, rfl, ?_⟩; have n0_ := Aside0.mk (Kd.R_below (by (with_reducible repeat (first | apply Kd.R_alloc | apply Kd.R_drewN | apply Kd.R_drew)); exact HW.out) hb); have n1_ := Aside0.mk (Kd.R_below (by (with_reducible repeat (first | apply Kd.R_alloc | apply Kd.R_drewN | apply Kd.R_drew)); exact HX0.out) hb); have n2_ := Aside0.mk (Kd.R_below (by (with_reducible repeat (first | apply Kd.R_alloc | apply Kd.R_drewN | apply Kd.R_drew)); exact HX1.out) hb); have n3_ := Aside0.mk (Kd.R_below (by (with_reducible repeat (first | apply Kd.R_alloc | apply Kd.R_drewN | apply Kd.R_drew)); exact HG.out) hb); have n4_ := Aside0.mk (Kd.C_below (by repeat (first | exact HKy0.out | (with_reducible refine Kd.C_alloc ?_ _) | (with_reducible refine Kd.C_drewN ?_ _) | (with_reducible refine Kd.C_drew ?_))) hb); have nb_ := Aside0.mk (below_step (by repeat (first | (with_reducible first | exact HB.out | apply below_alloc | apply pw_below_drewN | apply below_drew1) | exact HB.out)) hb); clear HW; clear HX0; clear HX1; clear HG; clear HKy0; clear HB; have HW := n0_; have HX0 := n1_; have HX1 := n2_; have HG := n3_; have HKy0 := n4_; have HB := nb_; clear n0_ n1_ n2_ n3_ n4_ nb_; clear hb) | ((with_reducible refine gate_callee (f := 31) rfl ?_); refine goesL_ (some 59) rfl rfl Try.func31 (by kernel_rfl) rfl #[.slice A1 l1.length c1, .bool false] rfl (by (try simp only [List.map_toArray, List.map_cons, List.map_nil]); first | done | rfl | (simp only [List.length_drop, List.length_take]; rfl) | (go_simp; done) | (simp; done) | (simp; rfl)) ?_; (with_reducible refine (laws_toInt64SF.calls k _ _ l1 false L1 _ ?side1 ?side2 hfull1).mono ?_); (case side1 => repeat (first | exact (Kd.C_below HR1.out (by repeat (first | (with_reducible first | exact HB.out | apply below_alloc | apply pw_below_drewN | apply below_drew1) | exact HB.out))) | (with_reducible refine Kd.C_alloc ?_ _) | (with_reducible refine Kd.C_drewN ?_ _) | (with_reducible refine Kd.C_drew ?_))); (case side2 => exact HC1.out); rintro e wy1 ⟨Ay1, cy1, rfl, hR, _, hb⟩; refine ⟨_, rfl, ?_⟩; have HLy1 := Aside0.mk (Kd.R_reads' hR).2.1; have HKy1 := Aside0.mk (Kd.R_reads' hR).2.2; clear hR; have n0_ := Aside0.mk (Kd.R_below (by (with_reducible repeat (first | apply Kd.R_alloc | apply Kd.R_drewN | apply Kd.R_drew)); exact HW.out) hb); have n1_ := Aside0.mk (Kd.R_below (by (with_reducible repeat (first | apply Kd.R_alloc | apply Kd.R_drewN | apply Kd.R_drew)); exact HX0.out) hb); have n2_ := Aside0.mk (Kd.R_below (by (with_reducible repeat (first | apply Kd.R_alloc | apply Kd.R_drewN | apply Kd.R_drew)); exact HX1.out) hb); have n3_ := Aside0.mk (Kd.R_below (by (with_reducible repeat (first | apply Kd.R_alloc | apply Kd.R_drewN | apply Kd.R_drew)); exact HG.out) hb); have nb_ := Aside0.mk (below_step (by repeat (first | (with_reducible first | exact HB.out | apply below_alloc | apply pw_below_drewN | apply below_drew1) | exact HB.out)) hb); clear HW; clear HX0; clear HX1; clear HG; clear HB; have HW := n0_; have HX0 := n1_; have HX1 := n2_; have HG := n3_; have HB := nb_; clear n0_ n1_ n2_ n3_ nb_; clear hb) | ((with_reducible refine gate_callee (f := 35) rfl ?_); refine goesL_ (some 60) rfl rfl Try.func35 (by kernel_rfl) rfl #[.slice Ax1 l1.length cx1, .slice Ay1 l1.length cy1] rfl (by (try simp only [List.map_toArray, List.map_cons, List.map_nil]); first | done | rfl | (simp only [List.length_drop, List.length_take]; rfl) | (go_simp; done) | (simp; done) | (simp; rfl)) ?_; (with_reducible refine (laws_intactInt64SF.calls k l1.length _ _ L1 _ _ L1 room1 _ ?side1 ?side2 ?side3 ?side4 hroom1 hn1 hr1_0 hr1_1 hLr1 hLr1 heq1).mono ?_); (case side1 => exact (Kd.R_reads' (by (with_reducible repeat (first | apply Kd.R_alloc | apply Kd.R_drewN | apply Kd.R_drew)); exact HX1.out)).2.2); (case side2 => exact HLx1.out); (case side3 => repeat (first | exact HKy1.out | (with_reducible refine Kd.C_alloc ?_ _) | (with_reducible refine Kd.C_drewN ?_ _) | (with_reducible refine Kd.C_drew ?_))); (case side4 => exact HLy1.out); rintro e ws1 ⟨rfl, hb⟩; refine ⟨_, rfl, ?_⟩; have n0_ := Aside0.mk (Kd.R_below (by (with_reducible repeat (first | apply Kd.R_alloc | apply Kd.R_drewN | apply Kd.R_drew)); exact HW.out) hb); have n1_ := Aside0.mk (Kd.R_below (by (with_reducible repeat (first | apply Kd.R_alloc | apply Kd.R_drewN | apply Kd.R_drew)); exact HX0.out) hb); have n2_ := Aside0.mk (Kd.R_below (by (with_reducible repeat (first | apply Kd.R_alloc | apply Kd.R_drewN | apply Kd.R_drew)); exact HX1.out) hb); have n3_ := Aside0.mk (Kd.R_below (by (with_reducible repeat (first | apply Kd.R_alloc | apply Kd.R_drewN | apply Kd.R_drew)); exact HG.out) hb); have n4_ := Aside0.mk (Kd.C_below (by repeat (first | exact HKy1.out | (with_reducible refine Kd.C_alloc ?_ _) | (with_reducible refine Kd.C_drewN ?_ _) | (with_reducible refine Kd.C_drew ?_))) hb); have nb_ := Aside0.mk (below_step (by repeat (first | (with_reducible first | exact HB.out | apply below_alloc | apply pw_below_drewN | apply below_drew1) | exact HB.out)) hb); clear HW; clear HX0; clear HX1; clear HG; clear HKy1; clear HB; have HW := n0_; have HX0 := n1_; have HX1 := n2_; have HG := n3_; have HKy1 := n4_; have HB := nb_; clear n0_ n1_ n2_ n3_ n4_ nb_; clear hb) | ((with_reducible refine gate_callee (f := 36) rfl ?_); refine goesL_ (some 64) rfl rfl Try.func36 (by kernel_rfl) rfl #[.slice Ax0 l0.length cx0, .int .i64 101] rfl (by (try simp only [List.map_toArray, List.map_cons, List.map_nil]); first | done | rfl | (simp only [List.length_drop, List.length_take]; rfl) | (go_simp; done) | (simp; done) | (simp; rfl)) ?_; (with_reducible refine (laws_markArticleS.calls k (fun k_ => some k_ = (.slice Ax0 l0.length cx0 : Value).ownBlock) (.slice Ax0 l0.length cx0) M0 101 kx0 Mx0 w _ ?side1 ?side2 hmx0).mono ?_); (case side1 => repeat (first | (with_reducible first | exact HB.out | apply below_alloc | apply pw_below_drewN | apply below_drew1) | exact HB.out)); (case side2 => exact (takeRA hLt0 hLl_0 (by (with_reducible repeat (first | apply Kd.R_alloc | apply Kd.R_drewN | apply Kd.R_drew)); exact HX0.out))); rintro e wk0 ⟨rfl, _, hb0, hkp⟩; refine ⟨_, rfl, ?_⟩; have n0_ := Aside0.mk (R_keptT rfl (by (with_reducible repeat (first | apply Kd.R_alloc | apply Kd.R_drewN | apply Kd.R_drew)); exact HW.out) hkp (fun k_ hk_ he_ => NWX0.out k_ hk_ (he_.trans (own_same _ _ _ _)))); have n1_ := Aside0.mk (R_keptT rfl (by (with_reducible repeat (first | apply Kd.R_alloc | apply Kd.R_drewN | apply Kd.R_drew)); exact HX1.out) hkp (fun k_ hk_ he_ => NX01.out k_ ((own_same _ _ _ _).trans he_.symm) hk_.symm)); have n2_ := Aside0.mk (R_keptT rfl (by (with_reducible repeat (first | apply Kd.R_alloc | apply Kd.R_drewN | apply Kd.R_drew)); exact HG.out) hkp (fun k_ hk_ he_ => NXG0.out k_ ((own_same _ _ _ _).trans he_.symm) hk_.symm)); have nb_ := Aside0.mk (hb0); clear HW; clear HX1; clear HG; clear HB; have HW := n0_; have HX1 := n1_; have HG := n2_; have HB := nb_; clear n0_ n1_ n2_ nb_; clear hb0 hkp; clear HX0 NWX0 NX01 NXG0) | ((with_reducible refine gate_callee (f := 37) rfl ?_); refine goesL_ (some 67) rfl rfl Try.func37 (by kernel_rfl) rfl #[.slice Ax1 l1.length cx1, .int .i64 kx0] rfl (by (try simp only [List.map_toArray, List.map_cons, List.map_nil]); first | done | rfl | (simp only [List.length_drop, List.length_take]; rfl) | (go_simp; done) | (simp; done) | (simp; rfl)) ?_; (with_reducible refine (laws_markInt64S.calls k (fun k_ => some k_ = (.slice Ax1 l1.length cx1 : Value).ownBlock) (.slice Ax1 l1.length cx1) l1 kx0 kx1 Mx1 w _ ?side1 ?side2 hmx1).mono ?_); (case side1 => repeat (first | (with_reducible first | exact HB.out | apply below_alloc | apply pw_below_drewN | apply below_drew1) | exact HB.out)); (case side2 => exact (takeRI hLt1 hLl_1 (by (with_reducible repeat (first | apply Kd.R_alloc | apply Kd.R_drewN | apply Kd.R_drew)); exact HX1.out))); rintro e wk1 ⟨rfl, _, hb0, hkp⟩; refine ⟨_, rfl, ?_⟩; have n0_ := Aside0.mk (R_keptT rfl (by (with_reducible repeat (first | apply Kd.R_alloc | apply Kd.R_drewN | apply Kd.R_drew)); exact HW.out) hkp (fun k_ hk_ he_ => NWX1.out k_ hk_ (he_.trans (own_same _ _ _ _)))); have n1_ := Aside0.mk (R_keptT rfl (by (with_reducible repeat (first | apply Kd.R_alloc | apply Kd.R_drewN | apply Kd.R_drew)); exact HG.out) hkp (fun k_ hk_ he_ => NXG1.out k_ ((own_same _ _ _ _).trans he_.symm) hk_.symm)); have nb_ := Aside0.mk (hb0); clear HW; clear HG; clear HB; have HW := n0_; have HG := n1_; have HB := nb_; clear n0_ n1_ nb_; clear hb0 hkp; clear HX1 NWX1 NXG1) | (go_at_call 33; (with_reducible refine (laws_eqInt64S.calls k _ _ r _ _ r true _ ?side1 ?side2 ?side3 ?side4 heqr).mono ?_); (case side1 => exact (Kd.R_reads' (by (with_reducible repeat (first | apply Kd.R_alloc | apply Kd.R_drewN | apply Kd.R_drew)); exact HG.out)).2.2); (case side2 => exact (Kd.R_reads' HG.out).2.1); (case side3 => exact (Kd.R_reads' (by (with_reducible repeat (first | apply Kd.R_alloc | apply Kd.R_drewN | apply Kd.R_drew)); exact HW.out)).2.2); (case side4 => exact (Kd.R_reads' HW.out).2.1); rintro e we2 ⟨rfl, hd⟩; have hb := drawn_below hd; clear hd; have n0_ := Aside0.mk (Kd.R_below (by (with_reducible repeat (first | apply Kd.R_alloc | apply Kd.R_drewN | apply Kd.R_drew)); exact HW.out) hb); have n1_ := Aside0.mk (Kd.R_below (by (with_reducible repeat (first | apply Kd.R_alloc | apply Kd.R_drewN | apply Kd.R_drew)); exact HG.out) hb); have nb_ := Aside0.mk (below_step (by repeat (first | (with_reducible first | exact HB.out | apply below_alloc | apply pw_below_drewN | apply below_drew1) | exact HB.out)) hb); clear HW; clear HG; clear HB; have HW := n0_; have HG := n1_; have HB := nb_; clear n0_ n1_ nb_; clear hb) | ((with_reducible refine gate_callee (f := 37) rfl ?_); refine goesL_ (some 83) rfl rfl Try.func37 (by kernel_rfl) rfl #[.slice Ag r.length cg, .int .i64 101] rfl (by (try simp only [List.map_toArray, List.map_cons, List.map_nil]); first | done | rfl | (simp only [List.length_drop, List.length_take]; rfl) | (go_simp; done) | (simp; done) | (simp; rfl)) ?_; (with_reducible refine (laws_markInt64S.calls k (fun k_ => some k_ = (.slice Ag r.length cg : Value).ownBlock) (.slice Ag r.length cg) r 101 km Mg w _ ?side1 ?side2 hmg).mono ?_); (case side1 => repeat (first | (with_reducible first | exact HB.out | apply below_alloc | apply pw_below_drewN | apply below_drew1) | exact HB.out)); (case side2 => exact (Kd.R_tight rfl (by (with_reducible repeat (first | apply Kd.R_alloc | apply Kd.R_drewN | apply Kd.R_drew)); exact HG.out))); rintro e wl ⟨rfl, hRg, hb0, hkp⟩; refine ⟨_, rfl, ?_⟩; have n0_ := Aside0.mk (R_keptT rfl (by (with_reducible repeat (first | apply Kd.R_alloc | apply Kd.R_drewN | apply Kd.R_drew)); exact HW.out) hkp (fun k_ hk_ => NWG.out k_ hk_)); have nb_ := Aside0.mk (hb0); clear HW; clear HB; have HW := n0_; have HB := nb_; clear n0_ nb_; clear hb0 hkp; have HM := Aside0.mk (Kd.R_mono (ok' := fun _ => True) hRg (fun _ _ => trivial)); clear hRg HG NWG) | ((with_reducible refine gate_callee (f := 38) rfl ?_); refine goesL_ (some 86) rfl rfl Try.func38 (by kernel_rfl) rfl #[.slice Ag r.length cg, .int .i64 101] rfl (by (try simp only [List.map_toArray, List.map_cons, List.map_nil]); first | done | rfl | (simp only [List.length_drop, List.length_take]; rfl) | (go_simp; done) | (simp; done) | (simp; rfl)) ?_; (with_reducible refine (hheld _ _ _ ?side1 ?side2).mono ?_); (case side1 => exact (Kd.R_reads' (by (with_reducible repeat (first | apply Kd.R_alloc | apply Kd.R_drewN | apply Kd.R_drew)); exact HM.out)).2.2); (case side2 => exact (Kd.R_reads' HM.out |> fun z_ => z_.1 ▸ z_.2.1)); rintro e wm ⟨rfl, hd⟩; have hb := drawn_below hd; clear hd; refine ⟨_, rfl, ?_⟩; have n0_ := Aside0.mk (Kd.R_below (by (with_reducible repeat (first | apply Kd.R_alloc | apply Kd.R_drewN | apply Kd.R_drew)); exact HW.out) hb); have n1_ := Aside0.mk (Kd.R_below (by (with_reducible repeat (first | apply Kd.R_alloc | apply Kd.R_drewN | apply Kd.R_drew)); exact HM.out) hb); have nb_ := Aside0.mk (below_step (by repeat (first | (with_reducible first | exact HB.out | apply below_alloc | apply pw_below_drewN | apply below_drew1) | exact HB.out)) hb); clear HW; clear HM; clear HB; have HW := n0_; have HM := n1_; have HB := nb_; clear n0_ n1_ nb_; clear hb) | ((with_reducible refine gate_callee (f := 30) rfl ?_); refine goesL_ (some 94) rfl rfl Try.func30 (by kernel_rfl) rfl #[.slice A0 l0.length c0, .bool true] rfl (by (try simp only [List.map_toArray, List.map_cons, List.map_nil]); first | done | rfl | (simp only [List.length_drop, List.length_take]; rfl) | (go_simp; done) | (simp; done) | (simp; rfl)) ?_; (with_reducible refine (laws_toArticleS.calls k _ _ l0 true M0 _ ?side1 ?side2 hbare0).mono ?_); (case side1 => repeat (first | exact (Kd.C_below HR0.out (by repeat (first | (with_reducible first | exact HB.out | apply below_alloc | apply pw_below_drewN | apply below_drew1) | exact HB.out))) | (with_reducible refine Kd.C_alloc ?_ _) | (with_reducible refine Kd.C_drewN ?_ _) | (with_reducible refine Kd.C_drew ?_))); (case side2 => exact HC0.out); rintro e wza ⟨vza, rfl, hR, hb⟩; obtain ⟨Aza, cza, eza⟩ := Kd.R_slice hR; subst eza; refine ⟨_, rfl, ?_⟩; have HKza := Aside0.mk (Kd.R_reads' hR).2.2; have HLza := Aside0.mk (Kd.R_reads' hR).2.1; clear hR; have n0_ := Aside0.mk (Kd.R_below (by (with_reducible repeat (first | apply Kd.R_alloc | apply Kd.R_drewN | apply Kd.R_drew)); exact HW.out) hb); have n1_ := Aside0.mk (Kd.R_below (by (with_reducible repeat (first | apply Kd.R_alloc | apply Kd.R_drewN | apply Kd.R_drew)); exact HM.out) hb); have nb_ := Aside0.mk (below_step (by repeat (first | (with_reducible first | exact HB.out | apply below_alloc | apply pw_below_drewN | apply below_drew1) | exact HB.out)) hb); clear HW; clear HM; clear HB; have HW := n0_; have HM := n1_; have HB := nb_; clear n0_ n1_ nb_; clear hb) | ((with_reducible refine gate_callee (f := 31) rfl ?_); refine goesL_ (some 96) rfl rfl Try.func31 (by kernel_rfl) rfl #[.slice A1 l1.length c1, .bool true] rfl (by (try simp only [List.map_toArray, List.map_cons, List.map_nil]); first | done | rfl | (simp only [List.length_drop, List.length_take]; rfl) | (go_simp; done) | (simp; done) | (simp; rfl)) ?_; (with_reducible refine (laws_toInt64S.calls k _ _ l1 true l1 _ ?side1 ?side2 hbare1).mono ?_); (case side1 => repeat (first | exact (Kd.C_below HR1.out (by repeat (first | (with_reducible first | exact HB.out | apply below_alloc | apply pw_below_drewN | apply below_drew1) | exact HB.out))) | (with_reducible refine Kd.C_alloc ?_ _) | (with_reducible refine Kd.C_drewN ?_ _) | (with_reducible refine Kd.C_drew ?_))); (case side2 => exact HC1.out); rintro e wzb ⟨vzb, rfl, hR, hb⟩; obtain ⟨Azb, czb, ezb⟩ := Kd.R_slice hR; subst ezb; refine ⟨_, rfl, ?_⟩; have HKzb := Aside0.mk (Kd.R_reads' hR).2.2; have HLzb := Aside0.mk (Kd.R_reads' hR).2.1; clear hR; have n0_ := Aside0.mk (Kd.R_below (by (with_reducible repeat (first | apply Kd.R_alloc | apply Kd.R_drewN | apply Kd.R_drew)); exact HW.out) hb); have n1_ := Aside0.mk (Kd.R_below (by (with_reducible repeat (first | apply Kd.R_alloc | apply Kd.R_drewN | apply Kd.R_drew)); exact HM.out) hb); have n2_ := Aside0.mk (Kd.C_below (by repeat (first | exact HKza.out | (with_reducible refine Kd.C_alloc ?_ _) | (with_reducible refine Kd.C_drewN ?_ _) | (with_reducible refine Kd.C_drew ?_))) hb); have nb_ := Aside0.mk (below_step (by repeat (first | (with_reducible first | exact HB.out | apply below_alloc | apply pw_below_drewN | apply below_drew1) | exact HB.out)) hb); clear HW; clear HM; clear HKza; clear HB; have HW := n0_; have HM := n1_; have HKza := n2_; have HB := nb_; clear n0_ n1_ n2_ nb_; clear hb) | ((with_reducible refine gate_callee (f := 32) rfl ?_); refine goesL_ (some 97) rfl rfl Try.func32 (by kernel_rfl) rfl #[.slice Aza M0.length cza, .slice Azb l1.length czb] rfl (by (try simp only [List.map_toArray, List.map_cons, List.map_nil]); first | done | rfl | (simp only [List.length_drop, List.length_take]; rfl) | (go_simp; done) | (simp; done) | (simp; rfl)) ?_; (with_reducible refine (impl_MixedGroups.calls k _ _ M0 _ _ l1 r t _ ?side1 ?side2 ?side3 ?side4 himp).mono ?_); (case side1 => repeat (first | exact HKza.out | (with_reducible refine Kd.C_alloc ?_ _) | (with_reducible refine Kd.C_drewN ?_ _) | (with_reducible refine Kd.C_drew ?_))); (case side2 => exact HLza.out); (case side3 => repeat (first | exact HKzb.out | (with_reducible refine Kd.C_alloc ?_ _) | (with_reducible refine Kd.C_drewN ?_ _) | (with_reducible refine Kd.C_drew ?_))); (case side4 => exact HLzb.out); rintro e wt ⟨vh, rfl, hR, hb⟩; refine ⟨_, rfl, ?_⟩; obtain ⟨Ah, ch, eh⟩ := Kd.R_slice hR; subst eh; have HH := Aside0.mk (Kd.R_lower hR (below_size (by repeat (first | (with_reducible first | exact HB.out | apply below_alloc | apply pw_below_drewN | apply below_drew1) | exact HB.out)))); clear hR; have n0_ := Aside0.mk (Kd.R_below (by (with_reducible repeat (first | apply Kd.R_alloc | apply Kd.R_drewN | apply Kd.R_drew)); exact HW.out) hb); have n1_ := Aside0.mk (Kd.R_below (by (with_reducible repeat (first | apply Kd.R_alloc | apply Kd.R_drewN | apply Kd.R_drew)); exact HM.out) hb); have n2_ := Aside0.mk (Kd.C_below (by repeat (first | exact HKza.out | (with_reducible refine Kd.C_alloc ?_ _) | (with_reducible refine Kd.C_drewN ?_ _) | (with_reducible refine Kd.C_drew ?_))) hb); have n3_ := Aside0.mk (Kd.C_below (by repeat (first | exact HKzb.out | (with_reducible refine Kd.C_alloc ?_ _) | (with_reducible refine Kd.C_drewN ?_ _) | (with_reducible refine Kd.C_drew ?_))) hb); have nb_ := Aside0.mk (below_step (by repeat (first | (with_reducible first | exact HB.out | apply below_alloc | apply pw_below_drewN | apply below_drew1) | exact HB.out)) hb); clear HW; clear HM; clear HKza; clear HKzb; clear HB; have HW := n0_; have HM := n1_; have HKza := n2_; have HKzb := n3_; have HB := nb_; clear n0_ n1_ n2_ n3_ nb_; clear hb) | ((with_reducible refine gate_callee (f := 33) rfl ?_); refine goesL_ (some 102) rfl rfl Try.func33 (by kernel_rfl) rfl #[.slice Ah r.length ch, .slice Aw r.length cw] rfl (by (try simp only [List.map_toArray, List.map_cons, List.map_nil]); first | done | rfl | (simp only [List.length_drop, List.length_take]; rfl) | (go_simp; done) | (simp; done) | (simp; rfl)) ?_; (with_reducible refine (laws_eqInt64S.calls k _ _ r _ _ r true _ ?side1 ?side2 ?side3 ?side4 heqr).mono ?_); (case side1 => exact (Kd.R_reads' (by (with_reducible repeat (first | apply Kd.R_alloc | apply Kd.R_drewN | apply Kd.R_drew)); exact HH.out)).2.2); (case side2 => exact (Kd.R_reads' HH.out).2.1); (case side3 => exact (Kd.R_reads' (by (with_reducible repeat (first | apply Kd.R_alloc | apply Kd.R_drewN | apply Kd.R_drew)); exact HW.out)).2.2); (case side4 => exact (Kd.R_reads' HW.out).2.1); rintro e we3 ⟨rfl, hd⟩; have hb := drawn_below hd; clear hd; refine ⟨_, rfl, ?_⟩; have n0_ := Aside0.mk (Kd.R_below (by (with_reducible repeat (first | apply Kd.R_alloc | apply Kd.R_drewN | apply Kd.R_drew)); exact HW.out) hb); have n1_ := Aside0.mk (Kd.R_below (by (with_reducible repeat (first | apply Kd.R_alloc | apply Kd.R_drewN | apply Kd.R_drew)); exact HM.out) hb); have n2_ := Aside0.mk (Kd.R_below (by (with_reducible repeat (first | apply Kd.R_alloc | apply Kd.R_drewN | apply Kd.R_drew)); exact HH.out) hb); have nb_ := Aside0.mk (below_step (by repeat (first | (with_reducible first | exact HB.out | apply below_alloc | apply pw_below_drewN | apply below_drew1) | exact HB.out)) hb); clear HW; clear HM; clear HH; clear HB; have HW := n0_; have HM := n1_; have HH := n2_; have HB := nb_; clear n0_ n1_ n2_ nb_; clear hb) | ((with_reducible refine gate_callee (f := 38) rfl ?_); refine goesL_ (some 111) rfl rfl Try.func38 (by kernel_rfl) rfl #[.slice Ag r.length cg, .int .i64 101] rfl (by (try simp only [List.map_toArray, List.map_cons, List.map_nil]); first | done | rfl | (simp only [List.length_drop, List.length_take]; rfl) | (go_simp; done) | (simp; done) | (simp; rfl)) ?_; (with_reducible refine (hheld _ _ _ ?side1 ?side2).mono ?_); (case side1 => exact (Kd.R_reads' (by (with_reducible repeat (first | apply Kd.R_alloc | apply Kd.R_drewN | apply Kd.R_drew)); exact HM.out)).2.2); (case side2 => exact (Kd.R_reads' HM.out |> fun z_ => z_.1 ▸ z_.2.1)); rintro e wn ⟨rfl, hd⟩; have hb := drawn_below hd; clear hd; refine ⟨_, rfl, ?_⟩; have n0_ := Aside0.mk (Kd.R_below (by (with_reducible repeat (first | apply Kd.R_alloc | apply Kd.R_drewN | apply Kd.R_drew)); exact HM.out) hb); have nb_ := Aside0.mk (below_step (by repeat (first | (with_reducible first | exact HB.out | apply below_alloc | apply pw_below_drewN | apply below_drew1) | exact HB.out)) hb); clear HM; clear HB; have HM := n0_; have HB := nb_; clear n0_ nb_; clear hb))
  go_ret
  exact ⟨by first | rfl | (simp [errW_none, errW_some] <;> rfl) | (simp [*, errW_none, errW_some] <;> rfl), by repeat (first | (with_reducible first | exact HB.out | apply below_alloc | apply pw_below_drewN | apply below_drew1) | exact HB.out)⟩
set_option maxHeartbeats 40000000 in
set_option maxRecDepth 100000 in
theorem big (k : Nat) (A0 : Option Addr) (c0 : Nat) (l0 : List S23) (A1 : Option Addr) (c1 : Nat) (l1 : List Int) (z ji : Int) (hji : wrap64 (1000000 - (l1.length : Int)) = ji) (w : World) (hr0 : Kd.C k23 w A0 l0.length l0) (hc0 : l0.length ≤ c0) (hsz : laws_szArticleS.f k l0 ji = some z) (hz : z < 0) : Calls Try.prog 6 #[.slice A0 l0.length c0, .slice A1 l1.length c1] w fun e w' => e = .returned (.bool true) ∧ Below w.heap.size w w' := by
  have HR0 := Aside0.mk hr0
  have HC0 := Aside0.mk hc0
  have HB := Aside0.mk (Below.refl w.heap.size w)
  have c2b0 : decide (z < 0) = true := decide_eq_true hz
  have hjiw : IntKind.i64.wrap (1000000 - (l1.length : Int)) = ji := (i64_w _).trans hji
  clear hr0 hc0 hz
  go_enter Try.func6, Try.ntmps6
  go_wp2_with (first | ((with_reducible refine gate_callee (f := 28) rfl ?_); refine goesL_ (some 22) rfl rfl Try.func28 (by kernel_rfl) rfl #[.slice A0 l0.length c0, .int .i64 ji] rfl (by (try simp only [List.map_toArray, List.map_cons, List.map_nil]); first | done | rfl | (simp only [List.length_drop, List.length_take]; rfl) | (go_simp; done) | (simp; done) | (simp; rfl)) ?_; (with_reducible refine (laws_szArticleS.calls k _ _ l0 ji z _ ?side1 ?side2 hsz).mono ?_); (case side1 => repeat (first | exact (Kd.C_below HR0.out (by repeat (first | (with_reducible first | exact HB.out | apply below_alloc | apply pw_below_drewN | apply below_drew1) | exact HB.out))) | (with_reducible refine Kd.C_alloc ?_ _) | (with_reducible refine Kd.C_drewN ?_ _) | (with_reducible refine Kd.C_drew ?_))); (case side2 => exact HC0.out); rintro e wo0 ⟨rfl, hb⟩; refine ⟨_, rfl, ?_⟩; have nb_ := Aside0.mk (below_step (by repeat (first | (with_reducible first | exact HB.out | apply below_alloc | apply pw_below_drewN | apply below_drew1) | exact HB.out)) hb); clear HB; have HB := nb_; clear nb_; clear hb))
  go_ret
  exact ⟨by first | rfl | (simp [errW_none, errW_some] <;> rfl) | (simp [*, errW_none, errW_some] <;> rfl), by repeat (first | (with_reducible first | exact HB.out | apply below_alloc | apply pw_below_drewN | apply below_drew1) | exact HB.out)⟩
theorem ofRow9 {w : World} {a : Option Addr} {len cap : Nat} {zs : List (ByteArray × Int × Int × Int × Int × Int × Int × Int × Int)} (h : (a = none ∧ len = 0 ∧ cap = 0 ∧ zs = []) ∨ ∃ x, a = some x ∧ len ≤ cap ∧ cap ≤ maxLen ∧ zs.length = len ∧ ∀ i p, zs[i]? = some p → (w.cell? (x.add (i * 9 + 0)) = some (.string (p.1)) ∧ w.cell? (x.add (i * 9 + 1)) = some (.int .i64 (p.2.1)) ∧ w.cell? (x.add (i * 9 + 2)) = some (.int .i64 (p.2.2.1)) ∧ w.cell? (x.add (i * 9 + 3)) = some (.int .i64 (p.2.2.2.1)) ∧ w.cell? (x.add (i * 9 + 4)) = some (.int .i64 (p.2.2.2.2.1)) ∧ w.cell? (x.add (i * 9 + 5)) = some (.int .i64 (p.2.2.2.2.2.1)) ∧ w.cell? (x.add (i * 9 + 6)) = some (.int .i64 (p.2.2.2.2.2.2.1)) ∧ w.cell? (x.add (i * 9 + 7)) = some (.int .i64 (p.2.2.2.2.2.2.2.1)) ∧ w.cell? (x.add (i * 9 + 8)) = some (.int .i64 (p.2.2.2.2.2.2.2.2)) ∧ (p.1).size ≤ maxLen ∧ (Lit.int .i64 p.2.1).wf = true ∧ (Lit.int .i64 p.2.2.1).wf = true ∧ (Lit.int .i64 p.2.2.2.1).wf = true ∧ (Lit.int .i64 p.2.2.2.2.1).wf = true ∧ (Lit.int .i64 p.2.2.2.2.2.1).wf = true ∧ (Lit.int .i64 p.2.2.2.2.2.2.1).wf = true ∧ (Lit.int .i64 p.2.2.2.2.2.2.2.1).wf = true ∧ (Lit.int .i64 p.2.2.2.2.2.2.2.2).wf = true)) :
    ∃ l : List S23, len = l.length ∧ Kd.C k23 w a l.length l ∧ l.length ≤ cap ∧ l.length ≤ maxLen ∧ ∀ c ∈ l, c.f0.size ≤ maxLen := by
  rcases h with ⟨rfl, rfl, rfl, rfl⟩ | ⟨x, rfl, h1, h2, h3, h4⟩
  · exact ⟨[], rfl, ⟨rfl, by simp, fun h => absurd h (by simp)⟩, by simp, by simp, by simp⟩
  · have hm := maxLen_eq
    refine ⟨zs.map fun p => ⟨p.1, p.2.1, p.2.2.1, p.2.2.2.1, p.2.2.2.2.1, p.2.2.2.2.2.1, p.2.2.2.2.2.2.1, p.2.2.2.2.2.2.2.1, p.2.2.2.2.2.2.2.2⟩, by simp [h3], ⟨rfl, by simp; omega, fun _ => ⟨x, rfl, fun j q hj => ?_⟩⟩, by simp; omega, by simp; omega, fun c hc => ?_⟩
    · rw [List.getElem?_map] at hj
      obtain ⟨p, hp, rfl⟩ := Option.map_eq_some_iff.1 hj
      obtain ⟨g0, g1, g2, g3, g4, g5, g6, g7, g8, _⟩ := h4 j p hp
      refine ⟨_, rfl, k23_mk w _, fun i u hi => ?_⟩
      match i, hi with
      | 0, hi => simp at hi; subst hi; exact g0
      | 1, hi => simp at hi; subst hi; exact g1
      | 2, hi => simp at hi; subst hi; exact g2
      | 3, hi => simp at hi; subst hi; exact g3
      | 4, hi => simp at hi; subst hi; exact g4
      | 5, hi => simp at hi; subst hi; exact g5
      | 6, hi => simp at hi; subst hi; exact g6
      | 7, hi => simp at hi; subst hi; exact g7
      | 8, hi => simp at hi; subst hi; exact g8
      | i + 9, hi => simp at hi
    · obtain ⟨p, hp, rfl⟩ := List.mem_map.1 hc
      obtain ⟨j, hj⟩ := List.getElem?_of_mem hp
      exact (h4 j p hj).2.2.2.2.2.2.2.2.2.1
theorem walk (W : World) (a0 : Option Addr) (len0 cap0 : Nat) (z0 : List (ByteArray × Int × Int × Int × Int × Int × Int × Int × Int)) (w0 : (a0 = none ∧ len0 = 0 ∧ cap0 = 0 ∧ z0 = []) ∨ ∃ x, a0 = some x ∧ len0 ≤ cap0 ∧ cap0 ≤ maxLen ∧ z0.length = len0 ∧ ∀ i p, z0[i]? = some p → (W.cell? (x.add (i * 9 + 0)) = some (.string (p.1)) ∧ W.cell? (x.add (i * 9 + 1)) = some (.int .i64 (p.2.1)) ∧ W.cell? (x.add (i * 9 + 2)) = some (.int .i64 (p.2.2.1)) ∧ W.cell? (x.add (i * 9 + 3)) = some (.int .i64 (p.2.2.2.1)) ∧ W.cell? (x.add (i * 9 + 4)) = some (.int .i64 (p.2.2.2.2.1)) ∧ W.cell? (x.add (i * 9 + 5)) = some (.int .i64 (p.2.2.2.2.2.1)) ∧ W.cell? (x.add (i * 9 + 6)) = some (.int .i64 (p.2.2.2.2.2.2.1)) ∧ W.cell? (x.add (i * 9 + 7)) = some (.int .i64 (p.2.2.2.2.2.2.2.1)) ∧ W.cell? (x.add (i * 9 + 8)) = some (.int .i64 (p.2.2.2.2.2.2.2.2)) ∧ (p.1).size ≤ maxLen ∧ (Lit.int .i64 p.2.1).wf = true ∧ (Lit.int .i64 p.2.2.1).wf = true ∧ (Lit.int .i64 p.2.2.2.1).wf = true ∧ (Lit.int .i64 p.2.2.2.2.1).wf = true ∧ (Lit.int .i64 p.2.2.2.2.2.1).wf = true ∧ (Lit.int .i64 p.2.2.2.2.2.2.1).wf = true ∧ (Lit.int .i64 p.2.2.2.2.2.2.2.1).wf = true ∧ (Lit.int .i64 p.2.2.2.2.2.2.2.2).wf = true)) (yy0 : len0 * 80 ≤ 140737488351232) (a1 : Option Addr) (len1 cap1 : Nat) (z1 : List Int) (w1 : (a1 = none ∧ len1 = 0 ∧ cap1 = 0 ∧ z1 = []) ∨ ∃ x, a1 = some x ∧ len1 ≤ cap1 ∧ cap1 ≤ maxLen ∧ z1.length = cap1 ∧ (∀ i, i < z1.length → W.cell? (x.add i) = some (.int .i64 (z1.getD i 0))) ∧ ∀ n ∈ z1, (Lit.int .i64 n).wf = true) (y1 : len1 * 8 ≤ 140737488351232) :
    Calls Try.prog 6 #[.slice a0 len0 cap0, .slice a1 len1 cap1] W fun e w' => e = .returned (.bool true) ∧ Below W.heap.size W w' := by
  obtain ⟨l0, rfl, hr, hc0, hm, hms⟩ := ofRow9 w0
  obtain ⟨l1, rfl, hr1', hm1, hw1, hc1⟩ := ReadsInt.ofRowC w1
  have hr1 := Kd.C_of_reads (d := (0 : Int)) (h1 := fun _ => rfl) hr1'
  obtain ⟨z, ez, hzz⟩ := szArticleS_some l0 hm hms (wrap64 (1000000 - (l1.length : Int))) (by rw [w64 (by omega) (by omega)]; omega) (by rw [w64 (by omega) (by omega)]; omega) (by omega)
  by_cases g : z < 0
  · obtain ⟨K0, hsz⟩ := ez
    exact big K0 a0 cap0 l0 a1 cap1 l1 z _ rfl W hr hc0 (hsz _ (Nat.le_refl _)) g
  obtain ⟨hn', hs⟩ := hzz g
  rw [w64 (by omega) (by omega)] at hn'
  have hn0 : l0.length ≤ 1000000 := by omega
  have hn1 : l1.length ≤ 1000000 := by omega
  obtain ⟨room0, er0, r00, r01⟩ := room_some l0.length (by omega)
  obtain ⟨room1, er1, r10, r11⟩ := room_some l1.length (by omega)
  obtain ⟨L0, eF0, hF0, hT0⟩ := toArticleSF_ev l0 (by omega) er0 r00 r01
  obtain ⟨L1, eF1, hF1, hT1⟩ := toInt64SF_ev l1 (by omega) er1 r10 r11
  have hsm : ∀ c ∈ l0.map cvA, c.f0.size ≤ 4611686018427387904 := by
    intro c hc
    obtain ⟨d, hd, rfl⟩ := List.mem_map.1 hc
    have := hs d hd
    show d.f0.size ≤ 4611686018427387904
    omega
  have hml : (l0.map cvA).length = l0.length := by simp
  have hrl := mixM_len (l0.map cvA) l1
  obtain ⟨K1, h1⟩ := impl_MixedGroups_ev (l0.map cvA) l1 (by omega) (by omega) hsm
  obtain ⟨K2, h2⟩ := spec_MixedGroups_ev (l0.map cvA) l1 (by omega) (by omega) hsm
  generalize mixM (l0.map cvA) l1 = rr at h1 h2 hrl
  obtain ⟨r, t⟩ := rr
  simp only at hrl
  obtain ⟨K0, hsz⟩ := ez
  obtain ⟨K3, h3⟩ := eF0
  obtain ⟨K4, h4⟩ := eF1
  obtain ⟨K5, h5⟩ := toArticleS_bare l0 (by omega)
  obtain ⟨K6, h6⟩ := toInt64S_bare l1 (by omega)
  obtain ⟨K7, h7⟩ := eqArticleS_ev L0 (by omega)
  obtain ⟨K8, h8⟩ := eqInt64S_ev L1 (by omega)
  obtain ⟨Mx0, K9, h9⟩ := markArticleS_ev (l0.map cvA) (m := 101) (by omega) (by omega)
  obtain ⟨K10, h10⟩ := markInt64S_ev l1 (m := 101 + 9 * (l0.map cvA).length) (by omega) (by omega)
  obtain ⟨K11, h11⟩ := markInt64S_ev r (m := 101) (by omega) (by omega)
  obtain ⟨K12, h12⟩ := heldInt64S_ev (n := r.length) (m := 101) (by omega) (by omega)
  obtain ⟨K13, h13⟩ := eqInt64S_ev r (by omega)
  exact go (K0 + K1 + K2 + K3 + K4 + K5 + K6 + K7 + K8 + K9 + K10 + K11 + K12 + K13) a0 cap0 l0 a1 cap1 l1 r t (l0.map cvA) L0 Mx0 L1 _ _ z _ _ _ _ room0 room1 rfl W hr hc0 hr1 hc1 hn0 hn1 (hsz _ (by omega)) g hml
    (h3 _ (by omega)) hT0 (by omega) (by omega) er0 r00 (by omega) (h5 _ (by omega)) (h7 _ (by omega)) (h4 _ (by omega)) hT1 (by omega) (by omega) er1 r10 (by omega) (h6 _ (by omega)) (h8 _ (by omega))
    (h2 _ (by omega)) (h1 _ (by omega)) (h13 _ (by omega)) (h9 _ (by omega)) (h10 _ (by omega)) (by omega) (h11 _ (by omega)) (by omega) (mkI_len _ _) (h12 _ (by omega))

end Go.Proofs.Ytmepklccbogibaa.GoFnExactMixedGroups
