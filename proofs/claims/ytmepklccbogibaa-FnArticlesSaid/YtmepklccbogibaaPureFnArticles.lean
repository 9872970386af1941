/- Windows are as wide as twice the Spread, and the last one ends behind the length; an article that is found has its code; no condition. -/
import Derived.Test.YtmepklccbogibaaMa
import Derived.Test.YtmepklccbogibaaQFnArticlesx
namespace Go.Proofs.Ytmepklccbogibaa.PureFnArticles
open Go.RowKit Go.Proofs.Ytmepklccbogibaa.QFnArticles Go.Proofs.YtmepklccbogibaaW.PrintWords Go.Proofs.YtmepklccbogibaaW.PrintLast Go.Proofs.Ytmepklccbogibaa.Ma
set_option linter.unusedVariables false
set_option linter.unusedSimpArgs false

/-! ### division, ranges -/
theorem in_eq (a b c : Int) : spec_l01In.f a b c = some (decide (b ≤ a ∧ a ≤ c)) := by
  unfold spec_l01In.f
  by_cases h : b ≤ a <;> simp [h]
theorem within_eq (a b c : Int) : impl_within.f a b c = some (decide (b ≤ a ∧ a ≤ c)) := by
  unfold impl_within.f
  by_cases h : b ≤ a <;> simp [h]
theorem tdiv_floor {a b : Int} (hb : 0 < b) : (Int.tmod a b < 0 → Int.tdiv a b - 1 = a / b) ∧ (¬ Int.tmod a b < 0 → Int.tdiv a b = a / b) := by
  have h1 := Int.tdiv_eq_ediv (a := a) (b := b)
  have h2 := Int.tmod_eq_emod (a := a) (b := b)
  have h3 := Int.emod_nonneg a (show b ≠ 0 by omega)
  have h4 := Int.emod_lt_of_pos a hb
  by_cases h : 0 ≤ a ∨ b ∣ a
  · rw [if_pos h] at h1 h2
    omega
  · rw [if_neg h] at h1 h2
    rw [Int.sign_eq_one_of_pos hb] at h1
    omega
theorem ediv_small {a b : Int} (hb : 0 < b) (h : -4611686018427387904 ≤ a) (h' : a ≤ 4611686018427387904) : -4611686018427387904 ≤ a / b ∧ a / b ≤ 4611686018427387904 := by
  have h1 : -4611686018427387904 * b ≤ a := by
    have := Int.mul_le_mul_of_nonneg_left (show 1 ≤ b by omega) (show (0 : Int) ≤ 4611686018427387904 by omega); omega
  have h2 : a < (4611686018427387904 + 1) * b := by
    have := Int.mul_le_mul_of_nonneg_left (show 1 ≤ b by omega) (show (0 : Int) ≤ 4611686018427387905 by omega); omega
  have h3 := (Int.le_ediv_iff_mul_le hb).2 h1
  have h4 := (Int.ediv_lt_iff_lt_mul hb).2 h2
  omega
/-! ### IsWord -/
def az (c : Int) : Bool := decide (97 ≤ c) && decide (c ≤ 122)
def wordL (l : List Int) : Bool := decide (1 ≤ l.length) && decide (l.length ≤ 16) && l.all az
theorem az_lo {c : Int} (h : c < 97) : az c = false := by unfold az; simp; omega
theorem az_hi {c : Int} (h : c > 122) : az c = false := by unfold az; simp; omega
theorem az_in {c : Int} (h : ¬ c < 97) (h' : ¬ c > 122) : az c = true := by unfold az; simp; omega
theorem spec_l01In_eq (a b c : Int) : spec_l01In.f a b c = some (decide (b ≤ a) && decide (a ≤ c)) := by
  unfold spec_l01In.f
  by_cases h : b ≤ a <;> simp [h]
theorem spec_IsWord_l0 (s : ByteArray) (hs : s.size ≤ 4611686018427387904) : ∀ (R : List Int) (i : Nat), (bytesOf s).drop i = R → i ≤ s.size → Ev (fun k => spec_IsWord.l0 k s i) (R.all az && (decide (1 ≤ (s.size : Int)) && decide ((s.size : Int) ≤ 16))) := by
  intro R
  induction R with
  | nil =>
    intro i h hi
    have := bo_drop_nil h
    refine Ev.step (fun k => spec_IsWord.l0.eq_2 ..) ?_
    refine ev_neg (by omega) (ev_bind0 (spec_l01In_eq ..) (ev_ret ?_))
    simp
  | cons c R ih =>
    intro i h hi
    obtain ⟨h1, h2, h3⟩ := bt_drop h
    refine Ev.step (fun k => spec_IsWord.l0.eq_2 ..) ?_
    refine ev_pos (by omega) (ev_pos (by omega) ?_)
    rw [h2, w64 (by omega) (by omega)]
    by_cases a : c < 97
    · exact ev_pos a (ev_ret (by simp [az_lo a]))
    · refine ev_neg a ?_
      by_cases b : c > 122
      · exact ev_pos b (ev_ret (by simp [az_hi b]))
      · refine ev_neg b ?_
        have := ih (i + 1) h3 (by omega)
        rw [List.all_cons, az_in a b, Bool.true_and]
        exact this
theorem spec_IsWord_ev (s : ByteArray) (hs : s.size ≤ 4611686018427387904) : Ev (fun k => spec_IsWord.f k s) (wordL (bytesOf s)) := by
  have h := spec_IsWord_l0 s hs (bytesOf s) 0 rfl (by omega)
  unfold spec_IsWord.f
  have e : wordL (bytesOf s) = ((bytesOf s).all az && (decide (1 ≤ (s.size : Int)) && decide ((s.size : Int) ≤ 16))) := by
    unfold wordL; rw [bytesOf_length, Bool.and_comm]
    congr 2 <;> exact decide_eq_decide.2 (by omega)
  rw [e]; exact h

theorem impl_IsWord_l0 (s : ByteArray) (hs : s.size ≤ 4611686018427387904) : ∀ (R : List Int) (i : Nat), (bytesOf s).drop i = R → i ≤ s.size → Ev (fun k => impl_IsWord.l0 k s i) (R.all az) := by
  intro R
  induction R with
  | nil =>
    intro i h hi
    have := bo_drop_nil h
    refine Ev.step (fun k => impl_IsWord.l0.eq_2 ..) ?_
    exact ev_neg (by omega) (ev_ret rfl)
  | cons c R ih =>
    intro i h hi
    obtain ⟨h1, h2, h3⟩ := bt_drop h
    refine Ev.step (fun k => impl_IsWord.l0.eq_2 ..) ?_
    refine ev_pos (by omega) (ev_pos (by omega) ?_)
    rw [h2, w64 (by omega) (by omega)]
    by_cases a : c < 97
    · exact ev_pos a (ev_ret (by simp [az_lo a]))
    · refine ev_neg a ?_
      by_cases b : c > 122
      · exact ev_pos b (ev_ret (by simp [az_hi b]))
      · refine ev_neg b ?_
        have := ih (i + 1) h3 (by omega)
        rw [List.all_cons, az_in a b, Bool.true_and]
        exact this
theorem impl_IsWord_ev (s : ByteArray) (hs : s.size ≤ 4611686018427387904) : Ev (fun k => impl_IsWord.f k s) (wordL (bytesOf s)) := by
  have h := impl_IsWord_l0 s hs (bytesOf s) 0 rfl (by omega)
  have hb := bytesOf_length s
  unfold impl_IsWord.f wordL
  by_cases a : (s.size : Int) < 1
  · refine ev_pos a (Ev.step (fun k => impl_IsWord.j0.eq_2 ..) (ev_pos rfl (ev_ret ?_)))
    simp; omega
  · refine ev_neg a (Ev.step (fun k => impl_IsWord.j0.eq_2 ..) ?_)
    by_cases b : (s.size : Int) > 16
    · refine ev_pos (by simpa using b) (ev_ret ?_)
      simp; omega
    · refine ev_neg (by simpa using b) ?_
      have e : (decide (1 ≤ (bytesOf s).length) && decide ((bytesOf s).length ≤ 16) && (bytesOf s).all az) = (bytesOf s).all az := by
        simp; intro _; omega
      rw [e]; exact h

/-! ### articles -/
theorem maxLen_eq : maxLen ≤ 9223372036854775807 := by unfold maxLen; decide
def ArtB (c : ByteArray) (kind cal lift spread shots gap net group : Int) : Bool :=
  wordL (bytesOf c) && decide (0 ≤ kind ∧ kind ≤ 3) && decide (20 ≤ cal ∧ cal ≤ 300) && decide (0 ≤ lift ∧ lift ≤ 10000) && decide (0 ≤ spread ∧ spread ≤ lift) &&
    decide (1 ≤ shots ∧ shots ≤ 50) && decide (0 ≤ gap ∧ gap ≤ 10000) && decide (1 ≤ net ∧ net ≤ 100000) && decide (0 ≤ group ∧ group ≤ 3)
theorem artB_true {c : ByteArray} {kind cal lift spread shots gap net group : Int} (h : ArtB c kind cal lift spread shots gap net group = true) :
    wordL (bytesOf c) = true ∧ (0 ≤ kind ∧ kind ≤ 3) ∧ (20 ≤ cal ∧ cal ≤ 300) ∧ (0 ≤ lift ∧ lift ≤ 10000) ∧ (0 ≤ spread ∧ spread ≤ lift) ∧ (1 ≤ shots ∧ shots ≤ 50) ∧ (0 ≤ gap ∧ gap ≤ 10000) ∧ (1 ≤ net ∧ net ≤ 100000) ∧ (0 ≤ group ∧ group ≤ 3) := by
  unfold ArtB at h
  simp only [Bool.and_eq_true, decide_eq_true_eq] at h
  obtain ⟨⟨⟨⟨⟨⟨⟨⟨h1, h2⟩, h3⟩, h4⟩, h5⟩, h6⟩, h7⟩, h8⟩, h9⟩ := h
  exact ⟨h1, h2, h3, h4, h5, h6, h7, h8, h9⟩
theorem impl_IsArticle_ev (c : ByteArray) (kind cal lift spread shots gap net group : Int) (hs : c.size ≤ 4611686018427387904) :
    Ev (fun k => impl_IsArticle.f k c kind cal lift spread shots gap net group) (ArtB c kind cal lift spread shots gap net group) := by
  unfold impl_IsArticle.f ArtB
  refine (impl_IsWord_ev c hs).bind ?_
  simp only [within_eq, Option.bind_some]
  by_cases h1 : wordL (bytesOf c) = true
  · refine ev_pos h1 ?_
    simp only [h1, Bool.true_and]
    refine ev_const ?_
    simp only [decide_eq_true_eq]
    repeat' split
    all_goals first | (simp_all; done) | (simp_all; intros; omega)
  · exact ev_neg h1 (ev_ret (by simp [h1]))
theorem spec_IsArticle_ev (c : ByteArray) (kind cal lift spread shots gap net group : Int) (hs : c.size ≤ 4611686018427387904) :
    Ev (fun k => spec_IsArticle.f k c kind cal lift spread shots gap net group) (ArtB c kind cal lift spread shots gap net group) := by
  unfold spec_IsArticle.f ArtB
  refine (spec_IsWord_ev c hs).bind ?_
  simp only [in_eq, Option.bind_some]
  by_cases h1 : wordL (bytesOf c) = true
  · refine ev_pos h1 ?_
    simp only [h1, Bool.true_and]
    refine ev_const ?_
    simp only [decide_eq_true_eq]
    repeat' split
    all_goals first | (simp_all; done) | (simp_all; intros; omega)
  · exact ev_neg h1 (ev_ret (by simp [h1]))
def lenM (c : ByteArray) (kind cal lift spread shots gap net group : Int) : Int × Int :=
  if ArtB c kind cal lift spread shots gap net group = true then (lift + spread + (shots - 1) * gap, 0) else (0, 1)
theorem gap_bound {shots gap : Int} (h : 1 ≤ shots ∧ shots ≤ 50) (k : 0 ≤ gap ∧ gap ≤ 10000) : 0 ≤ (shots - 1) * gap ∧ (shots - 1) * gap ≤ 490000 := by
  constructor
  · exact Int.mul_nonneg (by omega) k.1
  · have h1 := Int.mul_le_mul_of_nonneg_right (show shots - 1 ≤ 49 by omega) k.1
    omega
theorem impl_LengthOf_ev (c : ByteArray) (kind cal lift spread shots gap net group : Int) (hs : c.size ≤ 4611686018427387904) :
    Ev (fun k => impl_LengthOf.f k c kind cal lift spread shots gap net group) (lenM c kind cal lift spread shots gap net group) := by
  unfold impl_LengthOf.f lenM
  refine (impl_IsArticle_ev c kind cal lift spread shots gap net group hs).bind ?_
  by_cases h : ArtB c kind cal lift spread shots gap net group = true
  · obtain ⟨_, _, _, h4, h5, h6, h7, _⟩ := artB_true h
    have hg := gap_bound h6 h7
    refine ev_pos h (ev_bind0 (b := lift + spread + (shots - 1) * gap) ?_ (ev_ret (by rw [if_pos h])))
    unfold impl_lengthOf.f
    rw [w64 (n := lift + spread) (by omega) (by omega), w64 (n := shots - 1) (by omega) (by omega), w64 (n := (shots - 1) * gap) (by omega) (by omega), w64 (by omega) (by omega)]
  · exact ev_neg h (ev_ret (by rw [if_neg h]))
theorem spec_LengthOf_ev (c : ByteArray) (kind cal lift spread shots gap net group : Int) (hs : c.size ≤ 4611686018427387904) :
    Ev (fun k => spec_LengthOf.f k c kind cal lift spread shots gap net group) (lenM c kind cal lift spread shots gap net group) := by
  unfold spec_LengthOf.f lenM
  refine (spec_IsArticle_ev c kind cal lift spread shots gap net group hs).bind ?_
  by_cases h : ArtB c kind cal lift spread shots gap net group = true
  · obtain ⟨_, _, _, h4, h5, h6, h7, _⟩ := artB_true h
    have hg := gap_bound h6 h7
    refine ev_pos h ?_
    unfold spec_l03Window.f
    refine ev_bind0 rfl (ev_pos (by simp) ?_)
    rw [w64 (n := shots - 1) (by omega) (by omega), w64 (n := 0 + lift) (by omega) (by omega), w64 (n := (shots - 1) * gap) (by omega) (by omega), w64 (n := 0 + lift + (shots - 1) * gap) (by omega) (by omega), w64 (n := 0 + lift + (shots - 1) * gap - spread) (by omega) (by omega), w64 (n := 0 + lift + (shots - 1) * gap + spread) (by omega) (by omega)]
    refine ev_ret ?_
    rw [if_pos h]
    show (0 + lift + (shots - 1) * gap + spread, (0 : Int)) = _
    rw [show 0 + lift + (shots - 1) * gap + spread = lift + spread + (shots - 1) * gap by omega]
  · exact ev_neg h (ev_ret (by rw [if_neg h]))
/-! ### lists of articles -/
def artC (x : S26) : Bool := ArtB x.f0 x.f1 x.f2 x.f3 x.f4 x.f5 x.f6 x.f7 x.f8
def areL : Option S26 → List S26 → Bool
  | _, [] => true
  | none, x :: R => artC x && areL (some x) R
  | some q, x :: R => artC x && (Op.bytesLess q.f0.toList x.f0.toList && areL (some x) R)
def areB (m : List S26) : Bool := areL none m && decide (m.length ≤ 12)
def prevA (l : List S26) (i : Nat) : Option S26 := if i = 0 then none else some (rdOf z26 l ((i : Int) - 1))
theorem prevA_next {l R : List S26} {i : Nat} {c : S26} (h : l.drop i = c :: R) : prevA l (i + 1) = some c := by
  obtain ⟨h1, h2, h3⟩ := rdOf_drop (d := z26) h
  unfold prevA
  rw [if_neg (by omega), show ((i + 1 : Nat) : Int) - 1 = (i : Int) by omega, h2]
theorem prevA_at {l : List S26} {i : Nat} (h : (i : Int) > 0) : prevA l i = some (rd_T26 l ((i : Int) - 1)) := by unfold prevA; rw [if_neg (by omega)]; rfl
theorem prevA_zero {l : List S26} {i : Nat} (h : ¬ (i : Int) > 0) : prevA l i = none := by unfold prevA; rw [if_pos (by omega)]
theorem areL_bad {p : Option S26} {c : S26} {R : List S26} (h : ¬ artC c = true) : areL p (c :: R) = false := by
  have h' : artC c = false := by simpa using h
  cases p <;> simp [areL, h']
theorem spec_AreArticles_l0 (l : List S26) (hl : l.length ≤ 4611686018427387904) (hs : ∀ c ∈ l, c.f0.size ≤ 4611686018427387904) : ∀ (R : List S26) (i : Nat), l.drop i = R → Ev (fun k => spec_AreArticles.l0 k l i) (areL (prevA l i) R && decide (l.length ≤ 12)) := by
  intro R
  induction R with
  | nil =>
    intro i h
    have := drop_nil h
    refine Ev.step (fun k => spec_AreArticles.l0.eq_2 ..) (ev_neg (by omega) (ev_ret ?_))
    have e : areL (prevA l i) [] = true := by unfold areL; rfl
    rw [e, Bool.true_and]
    exact decide_eq_decide.2 (by omega)
  | cons c R ih =>
    intro i h
    obtain ⟨h1, h2, h3⟩ := rdOf_drop (d := z26) h
    have h2' : rd_T26 l (i : Int) = c := h2
    obtain ⟨_, h4, _⟩ := drop_cons h
    have hc := hs c (List.mem_of_getElem? h4)
    have hn := ih (i + 1) h3
    rw [prevA_next h] at hn
    refine Ev.step (fun k => spec_AreArticles.l0.eq_2 ..) (ev_pos (by omega) (ev_pos (by omega) ?_))
    rw [h2', w64 (n := (i : Int) + 1) (by omega) (by omega)]
    refine (spec_IsArticle_ev c.f0 c.f1 c.f2 c.f3 c.f4 c.f5 c.f6 c.f7 c.f8 hc).bind ?_
    by_cases a : artC c = true
    · refine ev_pos a ?_
      by_cases g : (i : Int) > 0
      · refine ev_pos g ?_
        rw [w64 (n := (i : Int) - 1) (by omega) (by omega), prevA_at g]
        refine ev_pos (by omega) (ev_pos (by omega) ?_)
        by_cases u : Op.bytesLess (rd_T26 l ((i : Int) - 1)).f0.toList c.f0.toList = true
        · refine ev_pos u ?_
          have e : areL (some (rd_T26 l ((i : Int) - 1))) (c :: R) = areL (some c) R := by simp [areL, a, u]
          rw [e]; exact hn
        · refine ev_neg u (ev_ret ?_)
          have u' : Op.bytesLess (rd_T26 l ((i : Int) - 1)).f0.toList c.f0.toList = false := by simpa using u
          simp [areL, u']
      · refine ev_neg g ?_
        have e : areL none (c :: R) = areL (some c) R := by simp [areL, a]
        rw [prevA_zero g, e]; exact hn
    · exact ev_neg a (ev_ret (by rw [areL_bad a]; rfl))
theorem spec_AreArticles_ev (l : List S26) (hl : l.length ≤ 4611686018427387904) (hs : ∀ c ∈ l, c.f0.size ≤ 4611686018427387904) : Ev (fun k => spec_AreArticles.f k l) (areB l) := by
  have h := spec_AreArticles_l0 l hl hs l 0 rfl
  have e : prevA l 0 = none := by unfold prevA; rw [if_pos rfl]
  rw [e] at h
  exact h
theorem impl_AreArticles_l0 (l : List S26) (hl : l.length ≤ 4611686018427387904) (hs : ∀ c ∈ l, c.f0.size ≤ 4611686018427387904) : ∀ (R : List S26) (i : Nat), l.drop i = R → Ev (fun k => impl_AreArticles.l0 k l l (l.length : Int) i) (areL (prevA l i) R) := by
  intro R
  induction R with
  | nil =>
    intro i h
    have := drop_nil h
    refine Ev.step (fun k => impl_AreArticles.l0.eq_2 ..) (ev_neg (by omega) (ev_ret ?_))
    unfold areL; rfl
  | cons c R ih =>
    intro i h
    obtain ⟨h1, h2, h3⟩ := rdOf_drop (d := z26) h
    have h2' : rd_T26 l (i : Int) = c := h2
    obtain ⟨_, h4, _⟩ := drop_cons h
    have hc := hs c (List.mem_of_getElem? h4)
    have hn := ih (i + 1) h3
    rw [prevA_next h] at hn
    refine Ev.step (fun k => impl_AreArticles.l0.eq_2 ..) (ev_pos (by omega) (ev_pos (by omega) (ev_pos (by omega) ?_)))
    rw [h2', w64 (n := (i : Int) + 1) (by omega) (by omega)]
    refine (impl_IsArticle_ev c.f0 c.f1 c.f2 c.f3 c.f4 c.f5 c.f6 c.f7 c.f8 hc).bind ?_
    by_cases a : artC c = true
    · refine ev_pos a ?_
      by_cases g : (i : Int) > 0
      · refine ev_pos g ?_
        rw [w64 (n := (i : Int) - 1) (by omega) (by omega), prevA_at g]
        refine ev_pos (by omega) (ev_pos (by omega) ?_)
        by_cases u : Op.bytesLess (rd_T26 l ((i : Int) - 1)).f0.toList c.f0.toList = true
        · refine ev_pos u ?_
          have e : areL (some (rd_T26 l ((i : Int) - 1))) (c :: R) = areL (some c) R := by simp [areL, a, u]
          rw [e]; exact hn
        · refine ev_neg u (ev_ret ?_)
          have u' : Op.bytesLess (rd_T26 l ((i : Int) - 1)).f0.toList c.f0.toList = false := by simpa using u
          simp [areL, u']
      · refine ev_neg g ?_
        have e : areL none (c :: R) = areL (some c) R := by simp [areL, a]
        rw [prevA_zero g, e]; exact hn
    · exact ev_neg a (ev_ret (areL_bad a).symm)
theorem impl_AreArticles_ev (l : List S26) (hl : l.length ≤ 4611686018427387904) (hs : ∀ c ∈ l, c.f0.size ≤ 4611686018427387904) : Ev (fun k => impl_AreArticles.f k l) (areB l) := by
  have h := impl_AreArticles_l0 l hl hs l 0 rfl
  have e : prevA l 0 = none := by unfold prevA; rw [if_pos rfl]
  rw [e] at h
  unfold impl_AreArticles.f areB
  by_cases a : (l.length : Int) > 12
  · exact ev_pos a (ev_ret (by rw [decide_eq_false (by omega), Bool.and_false]))
  · refine ev_neg a ?_
    rw [decide_eq_true (by omega), Bool.and_true]
    exact h
/-! #### the article with a code -/
def findA (s : ByteArray) : List S26 → Nat → Int
  | [], _ => -1
  | c :: R, i => if c.f0.toList = s.toList then (i : Int) else findA s R (i + 1)
theorem spec_l03Find_l0 (l : List S26) (hl : l.length ≤ 4611686018427387904) (s : ByteArray) : ∀ (R : List S26) (i : Nat), l.drop i = R → Ev (fun k => spec_l03Find.l0 k l s i) (findA s R i) := by
  intro R
  induction R with
  | nil =>
    intro i e
    have := drop_nil e
    exact Ev.step (fun k => spec_l03Find.l0.eq_2 ..) (ev_neg (by omega) (Ev.now _))
  | cons c R ih =>
    intro i e
    obtain ⟨h1, h2, h3⟩ := rdOf_drop (d := z26) e
    have h2' : rd_T26 l (i : Int) = c := h2
    refine Ev.step (fun k => spec_l03Find.l0.eq_2 ..) (ev_pos (by omega) (ev_pos (by omega) ?_))
    rw [h2', w64 (n := (i : Int) + 1) (by omega) (by omega)]
    unfold findA
    by_cases g : c.f0.toList = s.toList
    · exact ev_pos g (ev_ret (by rw [if_pos g]))
    · rw [if_neg g]; exact ev_neg g (ih (i + 1) h3)
theorem impl_articleOf_l0 (l : List S26) (hl : l.length ≤ 4611686018427387904) (s : ByteArray) : ∀ (R : List S26) (i : Nat), l.drop i = R → Ev (fun k => impl_articleOf.l0 k s l (l.length : Int) i) (findA s R i) := by
  intro R
  induction R with
  | nil =>
    intro i e
    have := drop_nil e
    exact Ev.step (fun k => impl_articleOf.l0.eq_2 ..) (ev_neg (by omega) (Ev.now _))
  | cons c R ih =>
    intro i e
    obtain ⟨h1, h2, h3⟩ := rdOf_drop (d := z26) e
    have h2' : rd_T26 l (i : Int) = c := h2
    refine Ev.step (fun k => impl_articleOf.l0.eq_2 ..) (ev_pos (by omega) (ev_pos (by omega) (ev_pos (by omega) ?_)))
    rw [h2', w64 (n := (i : Int) + 1) (by omega) (by omega)]
    unfold findA
    by_cases g : c.f0.toList = s.toList
    · exact ev_pos g (ev_ret (by rw [if_pos g]))
    · rw [if_neg g]; exact ev_neg g (ih (i + 1) h3)
def findR (l : List S26) (s : ByteArray) : Int × Int := if areB l = true then (if findA s l 0 < 0 then (0, 4) else (findA s l 0, 0)) else (0, 1)
theorem spec_FindArticle_ev (l : List S26) (hl : l.length ≤ 4611686018427387904) (hs : ∀ c ∈ l, c.f0.size ≤ 4611686018427387904) (s : ByteArray) : Ev (fun k => spec_FindArticle.f k l s) (findR l s) := by
  refine (spec_AreArticles_ev l hl hs).bind ?_
  unfold findR
  by_cases a : areB l = true
  · refine ev_pos a ?_
    rw [if_pos a]
    have e : Ev (fun k => spec_l03Find.f k l s) (findA s l 0) := spec_l03Find_l0 l hl s l 0 rfl
    refine e.bind ?_
    by_cases b : findA s l 0 < 0
    · exact ev_pos b (ev_ret (by rw [if_pos b]))
    · exact ev_neg b (ev_ret (by rw [if_neg b]))
  · exact ev_neg a (ev_ret (by rw [if_neg a]))
theorem impl_FindArticle_ev (l : List S26) (hl : l.length ≤ 4611686018427387904) (hs : ∀ c ∈ l, c.f0.size ≤ 4611686018427387904) (s : ByteArray) : Ev (fun k => impl_FindArticle.f k l s) (findR l s) := by
  refine (impl_AreArticles_ev l hl hs).bind ?_
  unfold findR
  by_cases a : areB l = true
  · refine ev_pos a ?_
    rw [if_pos a]
    have e : Ev (fun k => impl_articleOf.f k l s) (findA s l 0) := impl_articleOf_l0 l hl s l 0 rfl
    refine e.bind ?_
    by_cases b : findA s l 0 < 0
    · exact ev_pos b (ev_ret (by rw [if_pos b]))
    · exact ev_neg b (ev_ret (by rw [if_neg b]))
  · exact ev_neg a (ev_ret (by rw [if_neg a]))

/-! ### numbers that follow from a code -/
def Code (c : List Int) : Prop := (∀ x ∈ c, 0 ≤ x ∧ x ≤ 255) ∧ c.length ≤ 5000
def Src (c : List Int) (a s : Int) : Prop := Code c ∧ (0 ≤ a ∧ a ≤ c.length) ∧ 0 ≤ s ∧ s < 2147483647
theorem rd_code {c : List Int} (h : Code c) {i : Int} (h0 : 0 ≤ i) (h1 : i < c.length) : 0 ≤ rd c i ∧ rd c i ≤ 255 := by
  unfold rd
  have hi : i.toNat < c.length := by omega
  rw [List.getD_eq_getElem?_getD, List.getElem?_eq_getElem hi]
  exact h.1 _ (List.getElem_mem hi)
theorem tmod_nn {a b : Int} (ha : 0 ≤ a) : Int.tmod a b = a % b := Int.tmod_eq_emod_of_nonneg ha
theorem tmod_in {a b : Int} (ha : 0 ≤ a) (hb : 0 < b) : 0 ≤ Int.tmod a b ∧ Int.tmod a b < b := by
  rw [tmod_nn ha]
  exact ⟨Int.emod_nonneg a (by omega), Int.emod_lt_of_pos a hb⟩
theorem l01Next_some {c : List Int} {a s n : Int} (h : Src c a s) (hn : n ≤ 4611686018427387904) : ∃ x a' s', spec_l01Next.f c a s n = some (x, a', s') ∧ Src c a' s' ∧ 0 ≤ x ∧ (1 ≤ n → x < n) ∧ (n ≤ 1 → x = 0) := by
  obtain ⟨hc, ⟨a0, a1⟩, s0, s1⟩ := h
  have hl := hc.2
  unfold spec_l01Next.f
  by_cases g : n ≤ 1
  · rw [if_pos g]
    exact ⟨0, a, s, rfl, ⟨hc, ⟨a0, a1⟩, s0, s1⟩, by omega, by omega, by omega⟩
  · rw [if_neg g]
    have e1 : wrap64 ((wrap64 (s * 48271)) + 29) = s * 48271 + 29 := by
      rw [w64 (n := s * 48271) (by omega) (by omega), w64 (by omega) (by omega)]
    have e2 := tmod_in (a := s * 48271 + 29) (b := 2147483647) (by omega) (by omega)
    rw [e1]
    generalize Int.tmod (s * 48271 + 29) 2147483647 = s' at *
    have e3 : wrap64 (Int.tdiv s' 31) = s' / 31 := by rw [Int.tdiv_eq_ediv_of_nonneg (by omega), w64 (by omega) (by omega)]
    rw [e3]
    by_cases g1 : a < (c.length : Int)
    · have hr := rd_code hc a0 g1
      rw [if_pos g1, if_pos a0, w64 (n := a + 1) (by omega) (by omega), w64 (n := a + 1 - 1) (by omega) (by omega), show a + 1 - 1 = a by omega, w64 (n := rd c a) (by omega) (by omega), w64 (n := s' / 31 + rd c a) (by omega) (by omega)]
      have t1 := tmod_in (a := rd c a) (b := n) (by omega) (by omega)
      have t2 := tmod_in (a := s' / 31 + rd c a) (b := n) (by omega) (by omega)
      have fin : Src c (a + 1) s' := ⟨hc, ⟨by omega, by omega⟩, e2⟩
      by_cases g2 : n ≤ 256
      · rw [if_pos g2]
        by_cases g3 : Int.tmod (a + 1) 2 = 0
        · rw [if_pos g3, if_pos a0, if_pos g1, if_neg (by omega)]
          exact ⟨_, _, _, rfl, fin, t1.1, fun _ => t1.2, by omega⟩
        · rw [if_neg g3, if_neg (by omega)]
          exact ⟨_, _, _, rfl, fin, t2.1, fun _ => t2.2, by omega⟩
      · rw [if_neg g2, if_neg (by omega)]
        exact ⟨_, _, _, rfl, fin, t2.1, fun _ => t2.2, by omega⟩
    · have t2 := tmod_in (a := s' / 31) (b := n) (by omega) (by omega)
      rw [if_neg g1, if_neg (by omega)]
      exact ⟨_, _, _, rfl, ⟨hc, ⟨a0, a1⟩, e2⟩, t2.1, fun _ => t2.2, by omega⟩
theorem l01Pick_some {c : List Int} {a s : Int} (h : Src c a s) {l : List Int} (hl : 1 ≤ l.length) (hl' : l.length ≤ 1000) : ∃ x a' s', spec_l01Pick.f c a s l = some (x, a', s') ∧ Src c a' s' ∧ x ∈ l := by
  obtain ⟨x, a', s', e, h', x0, x1, _⟩ := l01Next_some h (n := (l.length : Int)) (by omega)
  have x2 := x1 (by omega)
  unfold spec_l01Pick.f
  rw [e, Option.bind_some, if_pos x0, if_pos x2]
  refine ⟨_, _, _, rfl, h', ?_⟩
  unfold rd
  have hi : x.toNat < l.length := by omega
  rw [List.getD_eq_getElem?_getD, List.getElem?_eq_getElem hi]
  exact List.getElem_mem hi
theorem l01From_l0 {c : List Int} (hc : Code c) : ∀ (d : Nat) (i : Int) (s : Int), 64 - i = d → 0 ≤ i → 0 ≤ s → s < 2147483647 → ∃ s', Ev (fun k => spec_l01From.l0 k c i c 0 s) (c, 0, s') ∧ Src c 0 s' := by
  intro d
  have hl := hc.2
  induction d with
  | zero =>
    intro i s hd h0 s0 s1
    refine ⟨s, Ev.step (fun k => spec_l01From.l0.eq_2 ..) ?_, hc, ⟨by omega, by omega⟩, s0, s1⟩
    by_cases g : i < (c.length : Int)
    · exact ev_pos g (ev_neg (by omega) (Ev.now _))
    · exact ev_neg g (Ev.now _)
  | succ d ih =>
    intro i s hd h0 s0 s1
    by_cases g : i < (c.length : Int)
    · have hr := rd_code hc h0 g
      have e1 : wrap64 ((wrap64 (s * 83)) + (wrap64 (rd c i))) = s * 83 + rd c i := by
        rw [w64 (n := s * 83) (by omega) (by omega), w64 (n := rd c i) (by omega) (by omega), w64 (by omega) (by omega)]
      have e2 := tmod_in (a := s * 83 + rd c i) (b := 2147483647) (by omega) (by omega)
      obtain ⟨s', hs, h⟩ := ih (i + 1) (Int.tmod (s * 83 + rd c i) 2147483647) (by omega) (by omega) e2.1 e2.2
      refine ⟨s', Ev.step (fun k => spec_l01From.l0.eq_2 ..) (ev_pos g (ev_pos (by omega) (ev_pos h0 ?_))), h⟩
      rw [e1, w64 (by omega) (by omega)]
      exact hs
    · exact ⟨s, Ev.step (fun k => spec_l01From.l0.eq_2 ..) (ev_neg g (Ev.now _)), hc, ⟨by omega, by omega⟩, s0, s1⟩
theorem l01From_ev {c : List Int} (hc : Code c) : ∃ s, Ev (fun k => spec_l01From.f k c) (c, 0, s) ∧ Src c 0 s :=
  l01From_l0 hc 64 0 61043 (by omega) (by omega) (by omega) (by omega)
/-! ### dice -/
def Dice (c : List Int) (i h : Int) : Prop := Code c ∧ (0 ≤ i ∧ i ≤ c.length) ∧ 0 ≤ h ∧ h ≤ 18446744073709551615
theorem u64w (n : Int) : 0 ≤ IntKind.u64.wrap n ∧ IntKind.u64.wrap n ≤ 18446744073709551615 := by
  have e : IntKind.u64.wrap n = n % 18446744073709551616 := by rfl
  omega
theorem big_false {c : List Int} (h : ¬ (c.length : Int) > 4096) : laws_big.f c = some false := by unfold laws_big.f; simp; omega
theorem big_true {c : List Int} (h : (c.length : Int) > 4096) : laws_big.f c = some true := by unfold laws_big.f; simp; omega
theorem code_of {c : List Int} (h : ∀ x ∈ c, (Lit.int .u8 x).wf = true) (hl : ¬ (c.length : Int) > 4096) : Code c := ⟨fun x hx => bd8 (h x hx), by omega⟩

theorem pick12 {d : ByteArray} {l : List ByteArray} {x : Int} (h0 : 0 ≤ x) (h1 : x < l.length) : rdOf d l x ∈ l := by
  have hx : x.toNat < l.length := by omega
  unfold rdOf
  rw [List.getD_eq_getElem?_getD, List.getElem?_eq_getElem hx]
  exact List.getElem_mem hx
theorem l01Good_some {c : List Int} {a s : Int} (h : Src c a s) : ∃ x a' s', spec_l01Good.f c a s = some (x, a', s') ∧ Src c a' s' ∧ x.size ≤ 17 := by
  obtain ⟨x0, a0, s0, e0, h0, b0, c0, _⟩ := l01Next_some h (n := 12) (by omega)
  have c0 := c0 (by omega)
  unfold spec_l01Good.f
  rw [Option.bind_some, e0, Option.bind_some, if_pos b0, if_pos (by simpa using c0)]
  refine ⟨_, _, _, rfl, h0, ?_⟩
  have := pick12 (d := ByteArray.empty) (l := [(⟨#[97, 100, 97]⟩ : ByteArray), (⟨#[98, 114, 117, 110, 111]⟩ : ByteArray), (⟨#[99, 108, 97, 114, 97]⟩ : ByteArray), (⟨#[100, 111, 114, 97]⟩ : ByteArray), (⟨#[101, 109, 105, 108]⟩ : ByteArray), (⟨#[102, 114, 105, 100, 97]⟩ : ByteArray), (⟨#[103, 117, 115, 116, 97, 118]⟩ : ByteArray), (⟨#[104, 97, 110, 110, 97]⟩ : ByteArray), (⟨#[105, 118, 97, 110]⟩ : ByteArray), (⟨#[106, 97, 110, 97]⟩ : ByteArray), (⟨#[107, 97, 114, 108]⟩ : ByteArray), (⟨#[108, 101, 110, 97]⟩ : ByteArray)]) b0 (by simpa using c0)
  revert this
  generalize rdOf _ _ _ = w
  intro hw
  simp only [List.mem_cons, List.not_mem_nil, or_false] at hw
  rcases hw with rfl | rfl | rfl | rfl | rfl | rfl | rfl | rfl | rfl | rfl | rfl | rfl <;> decide
theorem l01DrawWord_some {c : List Int} {a s : Int} (h : Src c a s) : ∃ x a' s', spec_l01DrawWord.f c a s = some (x, a', s') ∧ Src c a' s' ∧ x.size ≤ 17 := by
  obtain ⟨x0, a0, s0, e0, h0, _⟩ := l01Next_some h (n := 24) (by omega)
  unfold spec_l01DrawWord.f
  rw [e0, Option.bind_some]
  by_cases g : x0 = 0
  · obtain ⟨x1, a1, s1, e1, h1, b1, c1, _⟩ := l01Next_some h0 (n := 6) (by omega)
    have c1 := c1 (by omega)
    rw [if_pos g, Option.bind_some, e1, Option.bind_some, if_pos b1, if_pos (by simpa using c1)]
    refine ⟨_, _, _, rfl, h1, ?_⟩
    have := pick12 (d := ByteArray.empty) (l := [(⟨#[]⟩ : ByteArray), (⟨#[65, 100, 97]⟩ : ByteArray), (⟨#[97, 49]⟩ : ByteArray), (⟨#[97, 98, 99, 100, 101, 102, 103, 104, 105, 106, 107, 108, 109, 110, 111, 112]⟩ : ByteArray), (⟨#[97, 98, 99, 100, 101, 102, 103, 104, 105, 106, 107, 108, 109, 110, 111, 112, 113]⟩ : ByteArray), (⟨#[97, 32, 98]⟩ : ByteArray)]) b1 (by simpa using c1)
    revert this
    generalize rdOf _ _ _ = w
    intro hw
    simp only [List.mem_cons, List.not_mem_nil, or_false] at hw
    rcases hw with rfl | rfl | rfl | rfl | rfl | rfl <;> decide
  · obtain ⟨x1, a1, s1, e1, h1, hx⟩ := l01Good_some h0
    rw [if_neg g, e1]
    exact ⟨_, _, _, rfl, h1, hx⟩
/-! ### drawn articles -/
theorem l01DrawTime_some {c : List Int} {a s : Int} (h : Src c a s) : ∃ x a' s', spec_l01DrawTime.f c a s = some (x, a', s') ∧ Src c a' s' := by
  obtain ⟨x0, a0, s0, e0, h0, _⟩ := l01Next_some h (n := 16) (by omega)
  unfold spec_l01DrawTime.f
  by_cases g : x0 = 0
  · obtain ⟨x1, a1, s1, e1, h1, _⟩ := l01Pick_some h0 (l := [0, 10000000, 10000001, (-1)]) (by simp) (by simp)
    refine ⟨x1, a1, s1, ?_, h1⟩
    rw [e0, Option.bind_some, if_pos g, e1]; rfl
  · obtain ⟨x1, a1, s1, e1, h1, _⟩ := l01Next_some h0 (n := 1000000) (by omega)
    obtain ⟨x2, a2, s2, e2, h2, _⟩ := l01Next_some h1 (n := 60000) (by omega)
    obtain ⟨x3, a3, s3, e3, h3, _⟩ := l01Next_some h2 (n := 10000001) (by omega)
    obtain ⟨x4, a4, s4, e4, h4, _⟩ := l01Pick_some h3 (l := [x1, x2, x3]) (by simp) (by simp)
    refine ⟨x4, a4, s4, ?_, h4⟩
    simp only [e0, e1, e2, e3, e4, Option.bind_some]
    rw [if_neg g]
theorem l03Good_some {c : List Int} {a s : Int} (h : Src c a s) (nm : ByteArray) : ∃ x1 x2 x3 x4 x5 x6 x7 x8 a' s', spec_l03Good.f c a s nm = some (nm, x1, x2, x3, x4, x5, x6, x7, x8, a', s') ∧ Src c a' s' := by
  obtain ⟨y1, a1, s1, e1, h1, _⟩ := l01Next_some h (n := 4) (by omega)
  obtain ⟨y2, a2, s2, e2, h2, _⟩ := l01Next_some h1 (n := 281) (by omega)
  obtain ⟨y3, a3, s3, e3, h3, _⟩ := l01Pick_some h2 (l := [50, 75, 100, 150, wrap64 (20 + y2)]) (by simp) (by simp)
  obtain ⟨y4, a4, s4, e4, h4, _⟩ := l01Next_some h3 (n := 5000) (by omega)
  obtain ⟨y5, a5, s5, e5, h5, _⟩ := l01Next_some h4 (n := 300) (by omega)
  obtain ⟨y6, a6, s6, e6, h6, _⟩ := l01Next_some h5 (n := 2000) (by omega)
  obtain ⟨y7, a7, s7, e7, h7, _⟩ := l01Next_some h6 (n := 4) (by omega)
  unfold spec_l03Good.f
  by_cases g1 : y1 = 1
  · obtain ⟨y8, a8, s8, e8, h8, _⟩ := l01Next_some h7 (n := 8) (by omega)
    obtain ⟨y9, a9, s9, e9, h9, _⟩ := l01Next_some h8 (n := 2000) (by omega)
    have g2 : ¬ y1 = 2 := by omega
    simp only [e1, e2, e3, e4, e5, e6, e7, e8, e9, Option.bind_some, if_pos g1, if_neg g2]
    exact ⟨_, _, _, _, _, _, _, _, a9, s9, rfl, h9⟩
  · by_cases g2 : y1 = 2
    · simp only [e1, e2, e3, e4, e5, e6, e7, Option.bind_some, if_neg g1, if_pos g2]
      exact ⟨_, _, _, _, _, _, _, _, a7, s7, rfl, h7⟩
    · simp only [e1, e2, e3, e4, e5, e6, e7, Option.bind_some, if_neg g1, if_neg g2]
      exact ⟨_, _, _, _, _, _, _, _, a7, s7, rfl, h7⟩
theorem l03Draw_some {c : List Int} {a s : Int} (h : Src c a s) (nm : ByteArray) (hn : nm.size ≤ 17) : ∃ m x1 x2 x3 x4 x5 x6 x7 x8 a' s', spec_l03Draw.f c a s nm = some (m, x1, x2, x3, x4, x5, x6, x7, x8, a', s') ∧ Src c a' s' ∧ m.size ≤ 17 := by
  obtain ⟨x1, x2, x3, x4, x5, x6, x7, x8, a0, s0, e0, h0⟩ := l03Good_some h nm
  obtain ⟨y, a1, s1, e1, h1, _⟩ := l01Next_some h0 (n := 60) (by omega)
  unfold spec_l03Draw.f
  by_cases g0 : y = 0
  · obtain ⟨z, a2, s2, e2, h2, _⟩ := l01Pick_some h1 (l := [19, 20, 300, 301]) (by simp) (by simp)
    simp only [e0, e1, e2, Option.bind_some, if_pos g0]
    exact ⟨_, _, _, _, _, _, _, _, _, a2, s2, rfl, h2, hn⟩
  by_cases g1 : y = 1
  · obtain ⟨z, a2, s2, e2, h2, _⟩ := l01Pick_some h1 (l := [x3, wrap64 (x3 + 1), (-1)]) (by simp) (by simp)
    simp only [e0, e1, e2, Option.bind_some, if_neg g0, if_pos g1]
    exact ⟨_, _, _, _, _, _, _, _, _, a2, s2, rfl, h2, hn⟩
  by_cases g2 : y = 2
  · obtain ⟨z, a2, s2, e2, h2, _⟩ := l01Pick_some h1 (l := [0, 50, 51]) (by simp) (by simp)
    simp only [e0, e1, e2, Option.bind_some, if_neg g0, if_neg g1, if_pos g2]
    exact ⟨_, _, _, _, _, _, _, _, _, a2, s2, rfl, h2, hn⟩
  by_cases g3 : y = 3
  · obtain ⟨z, a2, s2, e2, h2, hz⟩ := l01DrawWord_some h1
    simp only [e0, e1, e2, Option.bind_some, if_neg g0, if_neg g1, if_neg g2, if_pos g3]
    exact ⟨_, _, _, _, _, _, _, _, _, a2, s2, rfl, h2, hz⟩
  by_cases g4 : y = 4
  · obtain ⟨z, a2, s2, e2, h2, _⟩ := l01Pick_some h1 (l := [0, 100000, 100001]) (by simp) (by simp)
    simp only [e0, e1, e2, Option.bind_some, if_neg g0, if_neg g1, if_neg g2, if_neg g3, if_pos g4]
    exact ⟨_, _, _, _, _, _, _, _, _, a2, s2, rfl, h2, hn⟩
  · simp only [e0, e1, Option.bind_some, if_neg g0, if_neg g1, if_neg g2, if_neg g3, if_neg g4]
    exact ⟨_, _, _, _, _, _, _, _, _, a1, s1, rfl, h1, hn⟩
theorem DrawShot_ev {c : List Int} (hc : Code c) : ∃ m x1 x2 x3 x4 x5 x6 x7 x8 lit, Ev (fun k => spec_DrawShotWindows.f k c) (m, x1, x2, x3, x4, x5, x6, x7, x8, lit) ∧ m.size ≤ 17 := by
  obtain ⟨s, e, h⟩ := l01From_ev hc
  obtain ⟨m, x1, x2, x3, x4, x5, x6, x7, x8, a1, s1, e1, h1, hm⟩ := l03Draw_some h (⟨#[112, 101, 111, 110, 121]⟩ : ByteArray) (by decide)
  obtain ⟨lit, a2, s2, e2, h2⟩ := l01DrawTime_some h1
  exact ⟨_, _, _, _, _, _, _, _, _, _, e.bind (ev_bind0 e1 (ev_bind0 e2 (Ev.now _))), hm⟩

/-! ### drawn lists of articles -/
theorem l03List_l1 {c : List Int} : ∀ (d : Nat) (out : List S26) (i a s : Int), Src c a s → 0 ≤ i → i + d = 14 → out.length + d ≤ 40 → (∀ x ∈ out, x.f0.size ≤ 17) → ∃ l a' s', Ev (fun k => spec_l03List.l1 k out i c a s) (l, a', s') ∧ Src c a' s' ∧ l.length ≤ 40 ∧ ∀ x ∈ l, x.f0.size ≤ 17 := by
  intro d
  induction d with
  | zero =>
    intro out i a s h h0 h1 h2 h3
    obtain ⟨y, a1, s1, e1, hs1, _⟩ := l01Next_some h (n := 2) (by omega)
    by_cases g : (out.length : Int) < wrap64 (12 + y)
    · exact ⟨_, _, _, Ev.step (fun k => spec_l03List.l1.eq_2 ..) (ev_bind0 e1 (ev_pos g (ev_neg (by omega) (Ev.now _)))), hs1, by omega, h3⟩
    · exact ⟨_, _, _, Ev.step (fun k => spec_l03List.l1.eq_2 ..) (ev_bind0 e1 (ev_neg g (Ev.now _))), hs1, by omega, h3⟩
  | succ d ih =>
    intro out i a s h h0 h1 h2 h3
    obtain ⟨y, a1, s1, e1, hs1, _⟩ := l01Next_some h (n := 2) (by omega)
    by_cases g : (out.length : Int) < wrap64 (12 + y)
    · have hi : wrap64 (i + 1) = i + 1 := w64 (by omega) (by omega)
      have hsz : ((⟨#[97, 98, 99, 100, 101, 102, 103, 104, 105, 106, 107, 108, 109, 110]⟩ : ByteArray).extract i.toNat (wrap64 (i + 1)).toNat).size ≤ 14 := by
        rw [ByteArray.size_extract]
        have : (⟨#[97, 98, 99, 100, 101, 102, 103, 104, 105, 106, 107, 108, 109, 110]⟩ : ByteArray).size = 14 := by decide
        omega
      have hnm : ((⟨#[120]⟩ : ByteArray) ++ ((⟨#[97, 98, 99, 100, 101, 102, 103, 104, 105, 106, 107, 108, 109, 110]⟩ : ByteArray).extract i.toNat (wrap64 (i + 1)).toNat)).size ≤ 17 := by
        rw [ByteArray.size_append]
        have : (⟨#[120]⟩ : ByteArray).size = 1 := by decide
        omega
      obtain ⟨x1, x2, x3, x4, x5, x6, x7, x8, a2, s2, e2, hs2⟩ := l03Good_some hs1 ((⟨#[120]⟩ : ByteArray) ++ ((⟨#[97, 98, 99, 100, 101, 102, 103, 104, 105, 106, 107, 108, 109, 110]⟩ : ByteArray).extract i.toNat (wrap64 (i + 1)).toNat))
      obtain ⟨l, a', s', e3, h4, h5, h6⟩ := ih (out ++ [(⟨_, x1, x2, x3, x4, x5, x6, x7, x8⟩ : S26)]) (wrap64 (i + 1)) a2 s2 hs2 (by omega) (by omega) (by simp; omega) (by
        intro x hx
        rcases List.mem_append.1 hx with hx | hx
        · exact h3 x hx
        · rw [List.mem_singleton.1 hx]; exact hnm)
      exact ⟨l, a', s', Ev.step (fun k => spec_l03List.l1.eq_2 ..) (ev_bind0 e1 (ev_pos g (ev_pos (by omega) (ev_pos h0 (ev_pos (by omega) (ev_pos (by omega) (ev_pos (by omega) (ev_bind0 e2 (ev_pos (by omega) e3))))))))), h4, h5, h6⟩
    · exact ⟨_, _, _, Ev.step (fun k => spec_l03List.l1.eq_2 ..) (ev_bind0 e1 (ev_neg g (Ev.now _))), hs1, by omega, h3⟩
theorem l03List_l0 {c : List Int} (ns : List ByteArray) (hns : ns.length = 6) (hnz : ∀ n ∈ ns, n.size ≤ 17) : ∀ (d : Nat) (out : List S26) (i a s : Int), Src c a s → 0 ≤ i → i + d = 6 → (out.length : Int) ≤ i → (∀ x ∈ out, x.f0.size ≤ 17) → ∃ l a' s', Ev (fun k => spec_l03List.l0 k out ns i c a s) (l, a', s') ∧ Src c a' s' ∧ l.length ≤ 40 ∧ ∀ x ∈ l, x.f0.size ≤ 17 := by
  intro d
  induction d with
  | zero =>
    intro out i a s h h0 h1 h2 h3
    obtain ⟨y, a1, s1, e1, hs1, _⟩ := l01Next_some h (n := 30) (by omega)
    by_cases g : y = 0
    · obtain ⟨x1, x2, x3, x4, x5, x6, x7, x8, a2, s2, e2, hs2⟩ := l03Good_some hs1 (⟨#[97, 115, 116, 101, 114]⟩ : ByteArray)
      refine ⟨_, _, _, Ev.step (fun k => spec_l03List.l0.eq_2 ..) (ev_neg (by omega) (ev_bind0 e1 (ev_pos g (ev_bind0 e2 (ev_pos (by omega) (Ev.now _)))))), hs2, by simp; omega, ?_⟩
      intro x hx
      rcases List.mem_append.1 hx with hx | hx
      · exact h3 x hx
      · rw [List.mem_singleton.1 hx]; show (⟨#[97, 115, 116, 101, 114]⟩ : ByteArray).size ≤ 17; decide
    by_cases g1 : y = 1
    · obtain ⟨l, a', s', e3, h4, h5, h6⟩ := l03List_l1 14 out 0 a1 s1 hs1 (by omega) (by omega) (by omega) h3
      exact ⟨l, a', s', Ev.step (fun k => spec_l03List.l0.eq_2 ..) (ev_neg (by omega) (ev_bind0 e1 (ev_neg g (ev_pos g1 e3)))), h4, h5, h6⟩
    · exact ⟨_, _, _, Ev.step (fun k => spec_l03List.l0.eq_2 ..) (ev_neg (by omega) (ev_bind0 e1 (ev_neg g (ev_neg g1 (Ev.now _))))), hs1, by omega, h3⟩
  | succ d ih =>
    intro out i a s h h0 h1 h2 h3
    obtain ⟨y, a1, s1, e1, hs1, _⟩ := l01Next_some h (n := 3) (by omega)
    have hi : wrap64 (i + 1) = i + 1 := w64 (by omega) (by omega)
    by_cases g : y > 0
    · obtain ⟨m, x1, x2, x3, x4, x5, x6, x7, x8, a2, s2, e2, hs2, hm⟩ := l03Draw_some hs1 (rdOf ByteArray.empty ns i) (hnz _ (pick12 h0 (by omega)))
      obtain ⟨l, a', s', e3, h4, h5, h6⟩ := ih (out ++ [(⟨m, x1, x2, x3, x4, x5, x6, x7, x8⟩ : S26)]) (wrap64 (i + 1)) a2 s2 hs2 (by omega) (by omega) (by simp; omega) (by
        intro x hx
        rcases List.mem_append.1 hx with hx | hx
        · exact h3 x hx
        · rw [List.mem_singleton.1 hx]; exact hm)
      exact ⟨l, a', s', Ev.step (fun k => spec_l03List.l0.eq_2 ..) (ev_pos (by omega) (ev_bind0 e1 (ev_pos g (ev_pos h0 (ev_bind0 e2 (ev_pos (by omega) e3)))))), h4, h5, h6⟩
    · obtain ⟨l, a', s', e3, h4, h5, h6⟩ := ih out (wrap64 (i + 1)) a1 s1 hs1 (by omega) (by omega) (by omega) h3
      exact ⟨l, a', s', Ev.step (fun k => spec_l03List.l0.eq_2 ..) (ev_pos (by omega) (ev_bind0 e1 (ev_neg g e3))), h4, h5, h6⟩
theorem l03List_ev {c : List Int} {a s : Int} (h : Src c a s) : ∃ l a' s', Ev (fun k => spec_l03List.f k c a s) (l, a', s') ∧ Src c a' s' ∧ l.length ≤ 40 ∧ ∀ x ∈ l, x.f0.size ≤ 17 := by
  obtain ⟨l, a', s', e, h1, h2, h3⟩ := l03List_l0 ([(⟨#[97, 115, 116, 101, 114]⟩ : ByteArray), (⟨#[99, 111, 109, 101, 116]⟩ : ByteArray), (⟨#[100, 97, 104, 108, 105, 97]⟩ : ByteArray), (⟨#[112, 97, 108, 109]⟩ : ByteArray), (⟨#[112, 101, 111, 110, 121]⟩ : ByteArray), (⟨#[119, 105, 108, 108, 111, 119]⟩ : ByteArray)]) rfl (by
    intro n hn
    simp only [List.mem_cons, List.not_mem_nil, or_false] at hn
    rcases hn with rfl | rfl | rfl | rfl | rfl | rfl <;> decide) 6 [] 0 a s h (by omega) (by omega) (by simp) (by simp)
  exact ⟨l, a', s', ev_bind0 rfl e, h1, h2, h3⟩
theorem DrawFind_ev {c : List Int} (hc : Code c) : ∃ l nm, Ev (fun k => spec_DrawFindArticle.f k c) (l, nm) ∧ l.length ≤ 40 ∧ (∀ x ∈ l, x.f0.size ≤ 17) ∧ nm.size ≤ 17 := by
  obtain ⟨s, e, h⟩ := l01From_ev hc
  obtain ⟨l, a1, s1, e1, h1, hl, hz⟩ := l03List_ev h
  obtain ⟨y, a2, s2, e2, h2, b2, c2, _⟩ := l01Next_some h1 (n := 7) (by omega)
  have c2 := c2 (by omega)
  refine ⟨l, _, e.bind (e1.bind (ev_bind0 rfl (ev_bind0 e2 (ev_pos b2 (ev_pos (by simpa using c2) (Ev.now _)))))), hl, hz, ?_⟩
  have := pick12 (d := ByteArray.empty) (l := [(⟨#[97, 115, 116, 101, 114]⟩ : ByteArray), (⟨#[99, 111, 109, 101, 116]⟩ : ByteArray), (⟨#[100, 97, 104, 108, 105, 97]⟩ : ByteArray), (⟨#[112, 97, 108, 109]⟩ : ByteArray), (⟨#[112, 101, 111, 110, 121]⟩ : ByteArray), (⟨#[110, 111, 110, 101]⟩ : ByteArray), (⟨#[]⟩ : ByteArray)]) b2 (by simpa using c2)
  revert this
  generalize rdOf _ _ _ = w
  intro hw
  simp only [List.mem_cons, List.not_mem_nil, or_false] at hw
  rcases hw with rfl | rfl | rfl | rfl | rfl | rfl | rfl <;> decide

/-! ### windows -/
def win (lit lift spread gap k : Int) : List Int := [wrap64 ((wrap64 ((wrap64 (lit + lift)) + (wrap64 (k * gap)))) - spread), wrap64 ((wrap64 ((wrap64 (lit + lift)) + (wrap64 (k * gap)))) + spread)]
def wins (lit lift spread gap : Int) : Nat → Int → List (List Int)
  | 0, _ => []
  | n + 1, k => win lit lift spread gap k :: wins lit lift spread gap n (k + 1)
theorem wins_len (lit lift spread gap : Int) : ∀ n k, (wins lit lift spread gap n k).length = n
  | 0, _ => rfl
  | n + 1, k => by simp [wins, wins_len lit lift spread gap n]
theorem wins_two (lit lift spread gap : Int) : ∀ n k, ∀ x ∈ wins lit lift spread gap n k, x.length = 2
  | 0, _ => by simp [wins]
  | n + 1, k => by
    intro x hx
    rcases List.mem_cons.1 hx with rfl | hx
    · rfl
    · exact wins_two lit lift spread gap n _ x hx
theorem spec_l0 (c : ByteArray) (a1 a2 a3 a4 a5 a6 a7 a8 lit : Int) (h5 : a5 ≤ 50) : ∀ (n : Nat) (acc : List (List Int)) (i : Int), 0 ≤ i → i + n = a5 → acc.length ≤ i →
    Ev (fun k => spec_ShotWindows.l0 k lit acc i c a1 a2 a3 a4 a5 a6 a7 a8) (acc ++ wins lit a3 a4 a6 n i, 0) := by
  intro n
  induction n with
  | zero =>
    intro acc i h0 h1 h2
    refine Ev.step (fun k => spec_ShotWindows.l0.eq_2 ..) (ev_neg (by omega) (ev_ret ?_))
    simp [wins]
  | succ n ih =>
    intro acc i h0 h1 h2
    refine Ev.step (fun k => spec_ShotWindows.l0.eq_2 ..) (ev_pos (by omega) (ev_bind0 rfl (ev_pos (by omega) ?_)))
    rw [w64 (n := i + 1) (by omega) (by omega)]
    have := ih (acc ++ [win lit a3 a4 a6 i]) (i + 1) (by omega) (by omega) (by simp; omega)
    rw [List.append_assoc] at this
    exact this
theorem impl_l0 (c : ByteArray) (a1 a2 a3 a4 a5 a6 a7 a8 lit : Int) (h5 : a5 ≤ 50) : ∀ (n : Nat) (acc : List (List Int)) (i : Int), 0 ≤ i → i + n = a5 → acc.length ≤ i →
    Ev (fun k => impl_shotWindows.l0 k lit acc i c a1 a2 a3 a4 a5 a6 a7 a8) (acc ++ wins lit a3 a4 a6 n i) := by
  intro n
  induction n with
  | zero =>
    intro acc i h0 h1 h2
    refine Ev.step (fun k => impl_shotWindows.l0.eq_2 ..) (ev_neg (by omega) (ev_ret ?_))
    simp [wins]
  | succ n ih =>
    intro acc i h0 h1 h2
    refine Ev.step (fun k => impl_shotWindows.l0.eq_2 ..) (ev_pos (by omega) (ev_pos (by omega) ?_))
    rw [w64 (n := i + 1) (by omega) (by omega)]
    have := ih (acc ++ [win lit a3 a4 a6 i]) (i + 1) (by omega) (by omega) (by simp; omega)
    rw [List.append_assoc] at this
    exact this
theorem wins_get (lit lift spread gap : Int) : ∀ (n : Nat) (k : Int) (j : Nat), j < n → (wins lit lift spread gap n k)[j]? = some (win lit lift spread gap (k + j))
  | 0, _, _, h => absurd h (by omega)
  | n + 1, k, 0, _ => by simp [wins]
  | n + 1, k, j + 1, h => by
    have := wins_get lit lift spread gap n (k + 1) j (by omega)
    simp only [wins, List.getElem?_cons_succ]
    rw [this, show k + 1 + (j : Int) = k + ((j + 1 : Nat) : Int) by omega]
theorem win_eq {lit lift spread gap k : Int} (h0 : 0 ≤ lit ∧ lit ≤ 10000000) (h1 : 0 ≤ lift ∧ lift ≤ 10000) (h2 : 0 ≤ spread ∧ spread ≤ 10000) (h3 : 0 ≤ k * gap ∧ k * gap ≤ 490000) :
    win lit lift spread gap k = [lit + lift + k * gap - spread, lit + lift + k * gap + spread] := by
  unfold win
  rw [w64 (n := lit + lift) (by omega) (by omega), w64 (n := k * gap) (by omega) (by omega), w64 (n := lit + lift + k * gap) (by omega) (by omega), w64 (by omega) (by omega), w64 (by omega) (by omega)]
def shotM (c : ByteArray) (a1 a2 a3 a4 a5 a6 a7 a8 lit : Int) : List (List Int) × Int :=
  if ArtB c a1 a2 a3 a4 a5 a6 a7 a8 = true then (if 0 ≤ lit ∧ lit ≤ 10000000 then (wins lit a3 a4 a6 a5.toNat 0, 0) else ([], 2)) else ([], 1)
theorem spec_ShotWindows_ev (c : ByteArray) (a1 a2 a3 a4 a5 a6 a7 a8 lit : Int) (hs : c.size ≤ 4611686018427387904) : Ev (fun k => spec_ShotWindows.f k c a1 a2 a3 a4 a5 a6 a7 a8 lit) (shotM c a1 a2 a3 a4 a5 a6 a7 a8 lit) := by
  have e1 := spec_IsArticle_ev c a1 a2 a3 a4 a5 a6 a7 a8 hs
  have t1 : spec_l01IsTime.f lit = some (decide (0 ≤ lit ∧ lit ≤ 10000000)) := by unfold spec_l01IsTime.f; rw [in_eq]; rfl
  unfold spec_ShotWindows.f shotM
  by_cases g : ArtB c a1 a2 a3 a4 a5 a6 a7 a8 = true
  · obtain ⟨_, _, _, _, _, g5, _⟩ := artB_true g
    rw [if_pos g]
    by_cases h : 0 ≤ lit ∧ lit ≤ 10000000
    · have s := spec_l0 c a1 a2 a3 a4 a5 a6 a7 a8 lit (by omega) a5.toNat [] 0 (by omega) (by omega) (by simp)
      rw [List.nil_append] at s
      rw [if_pos h]
      exact e1.bind (ev_pos g (ev_bind0 t1 (ev_pos (decide_eq_true h) s)))
    · rw [if_neg h]
      exact e1.bind (ev_pos g (ev_bind0 t1 (ev_neg (by simpa using h) (Ev.now _))))
  · rw [if_neg g]
    exact e1.bind (ev_neg g (Ev.now _))
theorem impl_ShotWindows_ev (c : ByteArray) (a1 a2 a3 a4 a5 a6 a7 a8 lit : Int) (hs : c.size ≤ 4611686018427387904) : Ev (fun k => impl_ShotWindows.f k c a1 a2 a3 a4 a5 a6 a7 a8 lit) (shotM c a1 a2 a3 a4 a5 a6 a7 a8 lit) := by
  have e2 := impl_IsArticle_ev c a1 a2 a3 a4 a5 a6 a7 a8 hs
  have t2 : impl_isTime.f lit = some (decide (0 ≤ lit ∧ lit ≤ 10000000)) := by unfold impl_isTime.f; rw [within_eq]; rfl
  unfold impl_ShotWindows.f shotM
  by_cases g : ArtB c a1 a2 a3 a4 a5 a6 a7 a8 = true
  · obtain ⟨_, _, _, _, _, g5, _⟩ := artB_true g
    rw [if_pos g]
    by_cases h : 0 ≤ lit ∧ lit ≤ 10000000
    · have i := impl_l0 c a1 a2 a3 a4 a5 a6 a7 a8 lit (by omega) a5.toNat [] 0 (by omega) (by omega) (by simp)
      rw [List.nil_append] at i
      rw [if_pos h]
      exact e2.bind (ev_pos g (ev_bind0 t2 (ev_pos (decide_eq_true h) (i.bind (Ev.now _)))))
    · rw [if_neg h]
      exact e2.bind (ev_pos g (ev_bind0 t2 (ev_neg (by simpa using h) (Ev.now _))))
  · rw [if_neg g]
    exact e2.bind (ev_neg g (Ev.now _))

theorem rd_L2_drop {l R : List (List Int)} {c : List Int} {i : Nat} (h : l.drop i = c :: R) : (i : Int) < l.length ∧ rd_L2 l i = c ∧ l.drop (i + 1) = R := by
  have hi : i < l.length := by
    rcases Nat.lt_or_ge i l.length with h1 | h1
    · exact h1
    · rw [List.drop_eq_nil_of_le h1] at h; exact absurd h (by simp)
  rw [List.drop_eq_getElem_cons hi] at h
  obtain ⟨h1, h2⟩ := List.cons.inj h
  refine ⟨by omega, ?_, h2⟩
  unfold rd_L2
  rw [List.getD_eq_getElem?_getD, show ((i : Int)).toNat = i by omega, List.getElem?_eq_getElem hi, h1]; rfl
theorem likeI_l0 (l : List Int) (hl : l.length ≤ 4611686018427387904) : ∀ (R : List Int) (i : Nat), l.drop i = R → Ev (fun k => laws_likeInts.l0 k l l i) true := by
  intro R
  induction R with
  | nil =>
    intro i h
    have := drop_nil h
    exact Ev.step (fun k => laws_likeInts.l0.eq_2 ..) (ev_neg (by omega) (Ev.now _))
  | cons c R ih =>
    intro i h
    obtain ⟨h1, h2, h3⟩ := rd_drop h
    refine Ev.step (fun k => laws_likeInts.l0.eq_2 ..) (ev_pos (by omega) (ev_pos (by omega) (ev_pos (by omega) (ev_pos rfl ?_))))
    rw [w64 (n := (i : Int) + 1) (by omega) (by omega)]
    exact ih (i + 1) h3
theorem likeI_ev (l : List Int) (hl : l.length ≤ 4611686018427387904) : Ev (fun k => laws_likeInts.f k l l) true := by
  have h := likeI_l0 l hl l 0 rfl
  exact ev_pos rfl h
theorem likeR_l0 (l : List (List Int)) (hl : l.length ≤ 4611686018427387904) (h2 : ∀ x ∈ l, x.length = 2) : ∀ (R : List (List Int)) (i : Nat), l.drop i = R → Ev (fun k => laws_likeRows.l0 k l l i) true := by
  intro R
  induction R with
  | nil =>
    intro i h
    have := drop_nil h
    exact Ev.step (fun k => laws_likeRows.l0.eq_2 ..) (ev_neg (by omega) (Ev.now _))
  | cons c R ih =>
    intro i h
    obtain ⟨g1, g2, g3⟩ := rd_L2_drop h
    obtain ⟨_, g4, _⟩ := drop_cons h
    have hc := h2 c (List.mem_of_getElem? g4)
    refine Ev.step (fun k => laws_likeRows.l0.eq_2 ..) (ev_pos (by omega) (ev_pos (by omega) (ev_pos (by omega) ?_)))
    rw [w64 (n := (i : Int) + 1) (by omega) (by omega), g2]
    exact (likeI_ev c (by omega)).bind (ev_pos rfl (ih (i + 1) g3))
theorem likeR_ev (l : List (List Int)) (hl : l.length ≤ 4611686018427387904) (h2 : ∀ x ∈ l, x.length = 2) : Ev (fun k => laws_likeRows.f k l l) true := by
  have h := likeR_l0 l hl h2 l 0 rfl
  exact ev_pos rfl h
theorem findA_at (s : ByteArray) (l : List S26) : ∀ (R : List S26) (i : Nat), l.drop i = R → 0 ≤ findA s R i → findA s R i < l.length ∧ (rd_T26 l (findA s R i)).f0.toList = s.toList := by
  intro R
  induction R with
  | nil => intro i _ h; exact absurd h (by unfold findA; omega)
  | cons c R ih =>
    intro i e h
    obtain ⟨h1, h2, h3⟩ := rdOf_drop (d := z26) e
    have h2' : rd_T26 l (i : Int) = c := h2
    unfold findA at h ⊢
    by_cases g : c.f0.toList = s.toList
    · rw [if_pos g, h2']; exact ⟨by omega, g⟩
    · rw [if_neg g] at h ⊢; exact ih (i + 1) h3 h
theorem findR_ok {l : List S26} {s : ByteArray} (h : (findR l s).2 = 0) : 0 ≤ (findR l s).1 ∧ (findR l s).1 < l.length ∧ (rd_T26 l (findR l s).1).f0.toList = s.toList := by
  unfold findR at h ⊢
  by_cases a : areB l = true
  · rw [if_pos a] at h ⊢
    by_cases b : findA s l 0 < 0
    · rw [if_pos b] at h; exact absurd h (by decide)
    · rw [if_neg b]
      obtain ⟨h1, h2⟩ := findA_at s l l 0 rfl (by omega)
      exact ⟨by dsimp only; omega, h1, h2⟩
  · rw [if_neg a] at h; exact absurd h (by decide)
theorem rd_win {lit lift spread gap : Int} (n : Nat) (i : Int) (h0 : 0 ≤ i) (h1 : i < n) : rd_L2 (wins lit lift spread gap n 0) i = win lit lift spread gap i := by
  unfold rd_L2
  rw [List.getD_eq_getElem?_getD, wins_get lit lift spread gap n 0 i.toNat (by omega), show (0 : Int) + (i.toNat : Int) = i by omega]; rfl
theorem law_l0 (c : ByteArray) (a1 a2 a3 a4 a5 a6 a7 a8 lit : Int) (hl : 0 ≤ lit ∧ lit ≤ 10000000) (h3 : 0 ≤ a3 ∧ a3 ≤ 10000) (h4 : 0 ≤ a4 ∧ a4 ≤ a3) (h5 : 1 ≤ a5 ∧ a5 ≤ 50) (h6 : 0 ≤ a6 ∧ a6 ≤ 10000) :
    ∀ (d : Nat) (i : Int), 0 ≤ i → i + d = a5 → Ev (fun k => laws_FnArticles.l0 k lit (wins lit a3 a4 a6 a5.toNat 0) 0 (wins lit a3 a4 a6 a5.toNat 0) (a3 + a4 + (a5 - 1) * a6) i c a1 a2 a3 a4 a5 a6 a7 a8) true := by
  have hlen := wins_len lit a3 a4 a6 a5.toNat 0
  have hg := gap_bound h5 h6
  have hL : wrap64 (lit + (a3 + a4 + (a5 - 1) * a6)) = lit + (a3 + a4 + (a5 - 1) * a6) := w64 (by omega) (by omega)
  have h2s : wrap64 (2 * a4) = 2 * a4 := w64 (by omega) (by omega)
  intro d
  induction d with
  | zero =>
    intro i h0 h1
    have hlast := rd_win (lit := lit) (lift := a3) (spread := a4) (gap := a6) a5.toNat (a5 - 1) (by omega) (by omega)
    rw [win_eq hl h3 (by omega) hg] at hlast
    have e1 : wrap64 (((wins lit a3 a4 a6 a5.toNat 0).length : Int) - 1) = a5 - 1 := by rw [hlen, w64 (by omega) (by omega)]; omega
    refine Ev.step (fun k => laws_FnArticles.l0.eq_2 ..) (ev_pos rfl (Ev.step (fun k => laws_FnArticles.j3.eq_2 ..) (ev_neg ?_ (ev_pos rfl (ev_pos ?_ ?_)))))
    · rw [decide_eq_true_eq, hlen]; omega
    · rw [hlen]; omega
    · rw [e1, hlast, hL]
      refine ev_pos (by omega) (ev_pos (by rw [hlen]; omega) (ev_pos (by simp) (ev_ret ?_)))
      show ((lit + a3 + (a5 - 1) * a6 + a4) == (lit + (a3 + a4 + (a5 - 1) * a6))) = true
      rw [show lit + a3 + (a5 - 1) * a6 + a4 = lit + (a3 + a4 + (a5 - 1) * a6) by omega]
      simp
  | succ d ih =>
    intro i h0 h1
    have hi : i ≤ a5 - 1 := by omega
    have m0 : 0 ≤ i * a6 := Int.mul_nonneg h0 h6.1
    have m1 : i * a6 ≤ (a5 - 1) * a6 := Int.mul_le_mul_of_nonneg_right hi h6.1
    have hrow := rd_win (lit := lit) (lift := a3) (spread := a4) (gap := a6) a5.toNat i (by omega) (by omega)
    rw [win_eq hl h3 (by omega) (by omega)] at hrow
    refine Ev.step (fun k => laws_FnArticles.l0.eq_2 ..) (ev_pos rfl (Ev.step (fun k => laws_FnArticles.j3.eq_2 ..) (ev_pos ?_ (ev_pos h0 (ev_pos ?_ ?_)))))
    · rw [decide_eq_true_eq, hlen]; omega
    · rw [hlen]; omega
    · rw [hrow, hL, h2s, w64 (n := i + 1) (by omega) (by omega)]
      have r0 : rd [lit + a3 + i * a6 - a4, lit + a3 + i * a6 + a4] 0 = lit + a3 + i * a6 - a4 := rfl
      have r1 : rd [lit + a3 + i * a6 - a4, lit + a3 + i * a6 + a4] 1 = lit + a3 + i * a6 + a4 := rfl
      rw [r0, r1, w64 (n := lit + a3 + i * a6 + a4 - (lit + a3 + i * a6 - a4)) (by omega) (by omega)]
      exact ev_pos (by simp) (ev_pos (by simp) (ev_pos (by omega) (ev_neg (by omega) (ev_neg (by omega) (ih (i + 1) (by omega) (by omega))))))
theorem law_bad (c : ByteArray) (a1 a2 a3 a4 a5 a6 a7 a8 lit b : Int) (hb : b ≠ 0) (x y : List (List Int)) (l : Int) : Ev (fun k => laws_FnArticles.l0 k lit x b y l 0 c a1 a2 a3 a4 a5 a6 a7 a8) true :=
  Ev.step (fun k => laws_FnArticles.l0.eq_2 ..) (ev_neg hb (Ev.step (fun k => laws_FnArticles.j3.eq_2 ..) (ev_neg (by decide) (ev_neg hb (Ev.now _)))))
theorem main : laws_FnArticles.Pure := by
  intro code _ _ hw
  apply Ev.rounds
  unfold laws_FnArticles.f
  by_cases g : (code.length : Int) > 4096
  · exact ev_bind0 (big_true g) (ev_pos rfl (Ev.now _))
  refine ev_bind0 (big_false g) (ev_neg (by decide) ?_)
  have hc := code_of hw g
  obtain ⟨c, a1, a2, a3, a4, a5, a6, a7, a8, lit, e1, hs⟩ := DrawShot_ev hc
  obtain ⟨l, nm, e2, hl, hz, hn⟩ := DrawFind_ev hc
  have hz' : ∀ x ∈ l, x.f0.size ≤ 4611686018427387904 := fun x hx => by have := hz x hx; omega
  have w1 := impl_ShotWindows_ev c a1 a2 a3 a4 a5 a6 a7 a8 lit (by omega)
  have w2 := spec_ShotWindows_ev c a1 a2 a3 a4 a5 a6 a7 a8 lit (by omega)
  have n1 := impl_LengthOf_ev c a1 a2 a3 a4 a5 a6 a7 a8 (by omega)
  have n2 := spec_LengthOf_ev c a1 a2 a3 a4 a5 a6 a7 a8 (by omega)
  have f1 := impl_FindArticle_ev l (by omega) hz' nm
  have f2 := spec_FindArticle_ev l (by omega) hz' nm
  have i1 := impl_IsArticle_ev c a1 a2 a3 a4 a5 a6 a7 a8 (by omega)
  have r1 := impl_AreArticles_ev l (by omega) hz'
  have r2 := spec_AreArticles_ev l (by omega) hz'
  have hfo := findR_ok (l := l) (s := nm)
  have tail : Ev (fun k => laws_FnArticles.l0 k lit (shotM c a1 a2 a3 a4 a5 a6 a7 a8 lit).1 (shotM c a1 a2 a3 a4 a5 a6 a7 a8 lit).2 (shotM c a1 a2 a3 a4 a5 a6 a7 a8 lit).1 (lenM c a1 a2 a3 a4 a5 a6 a7 a8).1 0 c a1 a2 a3 a4 a5 a6 a7 a8) true := by
    unfold shotM lenM
    by_cases ga : ArtB c a1 a2 a3 a4 a5 a6 a7 a8 = true
    · rw [if_pos ga, if_pos ga]
      by_cases gt : 0 ≤ lit ∧ lit ≤ 10000000
      · rw [if_pos gt]
        obtain ⟨_, _, _, g3, g4, g5, g6, _⟩ := artB_true ga
        exact law_l0 c a1 a2 a3 a4 a5 a6 a7 a8 lit gt g3 g4 g5 g6 a5.toNat 0 (by omega) (by omega)
      · rw [if_neg gt]; exact law_bad _ _ _ _ _ _ _ _ _ _ _ (by decide) _ _ _
    · rw [if_neg ga]; exact law_bad _ _ _ _ _ _ _ _ _ _ _ (by decide) _ _ _
  have hrow : (shotM c a1 a2 a3 a4 a5 a6 a7 a8 lit).1.length ≤ 50 ∧ ∀ x ∈ (shotM c a1 a2 a3 a4 a5 a6 a7 a8 lit).1, x.length = 2 := by
    unfold shotM
    by_cases ga : ArtB c a1 a2 a3 a4 a5 a6 a7 a8 = true
    · rw [if_pos ga]
      by_cases gt : 0 ≤ lit ∧ lit ≤ 10000000
      · rw [if_pos gt]
        obtain ⟨_, _, _, _, _, g5, _⟩ := artB_true ga
        exact ⟨by rw [wins_len]; omega, wins_two _ _ _ _ _ _⟩
      · rw [if_neg gt]; exact ⟨by simp, by simp⟩
    · rw [if_neg ga]; exact ⟨by simp, by simp⟩
  have hart : (ArtB c a1 a2 a3 a4 a5 a6 a7 a8 != ((lenM c a1 a2 a3 a4 a5 a6 a7 a8).2 == 0)) = false := by
    unfold lenM
    by_cases ga : ArtB c a1 a2 a3 a4 a5 a6 a7 a8 = true
    · rw [if_pos ga, ga]; rfl
    · rw [if_neg ga, Bool.eq_false_iff.2 ga]; rfl
  generalize shotM c a1 a2 a3 a4 a5 a6 a7 a8 lit = S at w1 w2 tail hrow
  generalize lenM c a1 a2 a3 a4 a5 a6 a7 a8 = L at n1 n2 tail hart
  generalize findR l nm = F at f1 f2 hfo
  obtain ⟨S1, S2⟩ := S
  obtain ⟨L1, L2⟩ := L
  obtain ⟨F1, F2⟩ := F
  refine e1.bind (w1.bind (w2.bind (n1.bind (n2.bind (e2.bind (f1.bind (f2.bind ?_)))))))
  refine ev_pos rfl ((likeR_ev S1 (by have := hrow.1; dsimp only at this; omega) hrow.2).bind (ev_pos rfl (ev_pos rfl (ev_pos rfl (ev_pos rfl (ev_pos rfl (i1.bind (ev_neg (by rw [hart]; decide) (r1.bind (r2.bind ?_))))))))))
  refine Ev.step (fun k => laws_FnArticles.j0.eq_2 ..) (ev_neg (by simp) ?_)
  by_cases z : F2 = 0
  · obtain ⟨f3, f4, f5⟩ := hfo z
    refine ev_pos z (ev_pos f3 (ev_pos f4 (Ev.step (fun k => laws_FnArticles.j1.eq_2 ..) (ev_neg ?_ tail))))
    dsimp only at f5
    rw [f5]; simp
  · exact ev_neg z (Ev.step (fun k => laws_FnArticles.j1.eq_2 ..) (ev_neg (by decide) tail))

end Go.Proofs.Ytmepklccbogibaa.PureFnArticles
namespace Go.Proofs.Ytmepklccbogibaa.Pure
theorem FnArticles : QFnArticles.laws_FnArticles.Pure := PureFnArticles.main
end Go.Proofs.Ytmepklccbogibaa.Pure
