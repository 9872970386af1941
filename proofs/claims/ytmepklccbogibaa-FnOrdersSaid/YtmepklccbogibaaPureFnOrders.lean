/- Two orders together weigh as much as both, no counts have no groups, and articles that are ordered have their group; no condition. -/
import Derived.Test.YtmepklccbogibaaMa
import Derived.Test.YtmepklccbogibaaQFnOrdersx
namespace Go.Proofs.Ytmepklccbogibaa.PureFnOrders
open Go.RowKit Go.Proofs.Ytmepklccbogibaa.QFnOrders Go.Proofs.YtmepklccbogibaaW.PrintWords Go.Proofs.YtmepklccbogibaaW.PrintLast Go.Proofs.Ytmepklccbogibaa.Ma
set_option linter.unusedVariables false
set_option linter.unusedSimpArgs false

/-! ### division, ranges -/
theorem in_eq (a b c : Int) : spec_l01In.f a b c = some (decide (b ≤ a ∧ a ≤ c)) := by
  unfold spec_l01In.f
  by_cases h : b ≤ a <;> simp [h]
theorem within_eq (a b c : Int) : impl_within.f a b c = some (decide (b ≤ a ∧ a ≤ c)) := by
  unfold impl_within.f
  by_cases h : b ≤ a <;> simp [h]
theorem tdiv_floor {a b : Int} (hb : 0 < b) : (Int.tmod a b < 0 → Int.tdiv a b - 1 = a / b) ∧ (¬ Int.tmod a b < 0 → Int.tdiv a b = a / b) := by
  have h1 := Int.tdiv_eq_ediv (a := a) (b := b)
  have h2 := Int.tmod_eq_emod (a := a) (b := b)
  have h3 := Int.emod_nonneg a (show b ≠ 0 by omega)
  have h4 := Int.emod_lt_of_pos a hb
  by_cases h : 0 ≤ a ∨ b ∣ a
  · rw [if_pos h] at h1 h2
    omega
  · rw [if_neg h] at h1 h2
    rw [Int.sign_eq_one_of_pos hb] at h1
    omega
theorem ediv_small {a b : Int} (hb : 0 < b) (h : -4611686018427387904 ≤ a) (h' : a ≤ 4611686018427387904) : -4611686018427387904 ≤ a / b ∧ a / b ≤ 4611686018427387904 := by
  have h1 : -4611686018427387904 * b ≤ a := by
    have := Int.mul_le_mul_of_nonneg_left (show 1 ≤ b by omega) (show (0 : Int) ≤ 4611686018427387904 by omega); omega
  have h2 : a < (4611686018427387904 + 1) * b := by
    have := Int.mul_le_mul_of_nonneg_left (show 1 ≤ b by omega) (show (0 : Int) ≤ 4611686018427387905 by omega); omega
  have h3 := (Int.le_ediv_iff_mul_le hb).2 h1
  have h4 := (Int.ediv_lt_iff_lt_mul hb).2 h2
  omega
/-! ### IsWord -/
def az (c : Int) : Bool := decide (97 ≤ c) && decide (c ≤ 122)
def wordL (l : List Int) : Bool := decide (1 ≤ l.length) && decide (l.length ≤ 16) && l.all az
theorem az_lo {c : Int} (h : c < 97) : az c = false := by unfold az; simp; omega
theorem az_hi {c : Int} (h : c > 122) : az c = false := by unfold az; simp; omega
theorem az_in {c : Int} (h : ¬ c < 97) (h' : ¬ c > 122) : az c = true := by unfold az; simp; omega
theorem spec_l01In_eq (a b c : Int) : spec_l01In.f a b c = some (decide (b ≤ a) && decide (a ≤ c)) := by
  unfold spec_l01In.f
  by_cases h : b ≤ a <;> simp [h]
theorem spec_IsWord_l0 (s : ByteArray) (hs : s.size ≤ 4611686018427387904) : ∀ (R : List Int) (i : Nat), (bytesOf s).drop i = R → i ≤ s.size → Ev (fun k => spec_IsWord.l0 k s i) (R.all az && (decide (1 ≤ (s.size : Int)) && decide ((s.size : Int) ≤ 16))) := by
  intro R
  induction R with
  | nil =>
    intro i h hi
    have := bo_drop_nil h
    refine Ev.step (fun k => spec_IsWord.l0.eq_2 ..) ?_
    refine ev_neg (by omega) (ev_bind0 (spec_l01In_eq ..) (ev_ret ?_))
    simp
  | cons c R ih =>
    intro i h hi
    obtain ⟨h1, h2, h3⟩ := bt_drop h
    refine Ev.step (fun k => spec_IsWord.l0.eq_2 ..) ?_
    refine ev_pos (by omega) (ev_pos (by omega) ?_)
    rw [h2, w64 (by omega) (by omega)]
    by_cases a : c < 97
    · exact ev_pos a (ev_ret (by simp [az_lo a]))
    · refine ev_neg a ?_
      by_cases b : c > 122
      · exact ev_pos b (ev_ret (by simp [az_hi b]))
      · refine ev_neg b ?_
        have := ih (i + 1) h3 (by omega)
        rw [List.all_cons, az_in a b, Bool.true_and]
        exact this
theorem spec_IsWord_ev (s : ByteArray) (hs : s.size ≤ 4611686018427387904) : Ev (fun k => spec_IsWord.f k s) (wordL (bytesOf s)) := by
  have h := spec_IsWord_l0 s hs (bytesOf s) 0 rfl (by omega)
  unfold spec_IsWord.f
  have e : wordL (bytesOf s) = ((bytesOf s).all az && (decide (1 ≤ (s.size : Int)) && decide ((s.size : Int) ≤ 16))) := by
    unfold wordL; rw [bytesOf_length, Bool.and_comm]
    congr 2 <;> exact decide_eq_decide.2 (by omega)
  rw [e]; exact h

theorem impl_IsWord_l0 (s : ByteArray) (hs : s.size ≤ 4611686018427387904) : ∀ (R : List Int) (i : Nat), (bytesOf s).drop i = R → i ≤ s.size → Ev (fun k => impl_IsWord.l0 k s i) (R.all az) := by
  intro R
  induction R with
  | nil =>
    intro i h hi
    have := bo_drop_nil h
    refine Ev.step (fun k => impl_IsWord.l0.eq_2 ..) ?_
    exact ev_neg (by omega) (ev_ret rfl)
  | cons c R ih =>
    intro i h hi
    obtain ⟨h1, h2, h3⟩ := bt_drop h
    refine Ev.step (fun k => impl_IsWord.l0.eq_2 ..) ?_
    refine ev_pos (by omega) (ev_pos (by omega) ?_)
    rw [h2, w64 (by omega) (by omega)]
    by_cases a : c < 97
    · exact ev_pos a (ev_ret (by simp [az_lo a]))
    · refine ev_neg a ?_
      by_cases b : c > 122
      · exact ev_pos b (ev_ret (by simp [az_hi b]))
      · refine ev_neg b ?_
        have := ih (i + 1) h3 (by omega)
        rw [List.all_cons, az_in a b, Bool.true_and]
        exact this
theorem impl_IsWord_ev (s : ByteArray) (hs : s.size ≤ 4611686018427387904) : Ev (fun k => impl_IsWord.f k s) (wordL (bytesOf s)) := by
  have h := impl_IsWord_l0 s hs (bytesOf s) 0 rfl (by omega)
  have hb := bytesOf_length s
  unfold impl_IsWord.f wordL
  by_cases a : (s.size : Int) < 1
  · refine ev_pos a (Ev.step (fun k => impl_IsWord.j0.eq_2 ..) (ev_pos rfl (ev_ret ?_)))
    simp; omega
  · refine ev_neg a (Ev.step (fun k => impl_IsWord.j0.eq_2 ..) ?_)
    by_cases b : (s.size : Int) > 16
    · refine ev_pos (by simpa using b) (ev_ret ?_)
      simp; omega
    · refine ev_neg (by simpa using b) ?_
      have e : (decide (1 ≤ (bytesOf s).length) && decide ((bytesOf s).length ≤ 16) && (bytesOf s).all az) = (bytesOf s).all az := by
        simp; intro _; omega
      rw [e]; exact h

/-! ### articles -/
theorem maxLen_eq : maxLen ≤ 9223372036854775807 := by unfold maxLen; decide
def ArtB (c : ByteArray) (kind cal lift spread shots gap net group : Int) : Bool :=
  wordL (bytesOf c) && decide (0 ≤ kind ∧ kind ≤ 3) && decide (20 ≤ cal ∧ cal ≤ 300) && decide (0 ≤ lift ∧ lift ≤ 10000) && decide (0 ≤ spread ∧ spread ≤ lift) &&
    decide (1 ≤ shots ∧ shots ≤ 50) && decide (0 ≤ gap ∧ gap ≤ 10000) && decide (1 ≤ net ∧ net ≤ 100000) && decide (0 ≤ group ∧ group ≤ 3)
theorem artB_true {c : ByteArray} {kind cal lift spread shots gap net group : Int} (h : ArtB c kind cal lift spread shots gap net group = true) :
    wordL (bytesOf c) = true ∧ (0 ≤ kind ∧ kind ≤ 3) ∧ (20 ≤ cal ∧ cal ≤ 300) ∧ (0 ≤ lift ∧ lift ≤ 10000) ∧ (0 ≤ spread ∧ spread ≤ lift) ∧ (1 ≤ shots ∧ shots ≤ 50) ∧ (0 ≤ gap ∧ gap ≤ 10000) ∧ (1 ≤ net ∧ net ≤ 100000) ∧ (0 ≤ group ∧ group ≤ 3) := by
  unfold ArtB at h
  simp only [Bool.and_eq_true, decide_eq_true_eq] at h
  obtain ⟨⟨⟨⟨⟨⟨⟨⟨h1, h2⟩, h3⟩, h4⟩, h5⟩, h6⟩, h7⟩, h8⟩, h9⟩ := h
  exact ⟨h1, h2, h3, h4, h5, h6, h7, h8, h9⟩
theorem impl_IsArticle_ev (c : ByteArray) (kind cal lift spread shots gap net group : Int) (hs : c.size ≤ 4611686018427387904) :
    Ev (fun k => impl_IsArticle.f k c kind cal lift spread shots gap net group) (ArtB c kind cal lift spread shots gap net group) := by
  unfold impl_IsArticle.f ArtB
  refine (impl_IsWord_ev c hs).bind ?_
  simp only [within_eq, Option.bind_some]
  by_cases h1 : wordL (bytesOf c) = true
  · refine ev_pos h1 ?_
    simp only [h1, Bool.true_and]
    refine ev_const ?_
    simp only [decide_eq_true_eq]
    repeat' split
    all_goals first | (simp_all; done) | (simp_all; intros; omega)
  · exact ev_neg h1 (ev_ret (by simp [h1]))
theorem spec_IsArticle_ev (c : ByteArray) (kind cal lift spread shots gap net group : Int) (hs : c.size ≤ 4611686018427387904) :
    Ev (fun k => spec_IsArticle.f k c kind cal lift spread shots gap net group) (ArtB c kind cal lift spread shots gap net group) := by
  unfold spec_IsArticle.f ArtB
  refine (spec_IsWord_ev c hs).bind ?_
  simp only [in_eq, Option.bind_some]
  by_cases h1 : wordL (bytesOf c) = true
  · refine ev_pos h1 ?_
    simp only [h1, Bool.true_and]
    refine ev_const ?_
    simp only [decide_eq_true_eq]
    repeat' split
    all_goals first | (simp_all; done) | (simp_all; intros; omega)
  · exact ev_neg h1 (ev_ret (by simp [h1]))
def lenM (c : ByteArray) (kind cal lift spread shots gap net group : Int) : Int × Int :=
  if ArtB c kind cal lift spread shots gap net group = true then (lift + spread + (shots - 1) * gap, 0) else (0, 1)
theorem gap_bound {shots gap : Int} (h : 1 ≤ shots ∧ shots ≤ 50) (k : 0 ≤ gap ∧ gap ≤ 10000) : 0 ≤ (shots - 1) * gap ∧ (shots - 1) * gap ≤ 490000 := by
  constructor
  · exact Int.mul_nonneg (by omega) k.1
  · have h1 := Int.mul_le_mul_of_nonneg_right (show shots - 1 ≤ 49 by omega) k.1
    omega
/-! ### lists of articles -/
def artC (x : S26) : Bool := ArtB x.f0 x.f1 x.f2 x.f3 x.f4 x.f5 x.f6 x.f7 x.f8
def areL : Option S26 → List S26 → Bool
  | _, [] => true
  | none, x :: R => artC x && areL (some x) R
  | some q, x :: R => artC x && (Op.bytesLess q.f0.toList x.f0.toList && areL (some x) R)
def areB (m : List S26) : Bool := areL none m && decide (m.length ≤ 12)
def prevA (l : List S26) (i : Nat) : Option S26 := if i = 0 then none else some (rdOf z26 l ((i : Int) - 1))
theorem prevA_next {l R : List S26} {i : Nat} {c : S26} (h : l.drop i = c :: R) : prevA l (i + 1) = some c := by
  obtain ⟨h1, h2, h3⟩ := rdOf_drop (d := z26) h
  unfold prevA
  rw [if_neg (by omega), show ((i + 1 : Nat) : Int) - 1 = (i : Int) by omega, h2]
theorem prevA_at {l : List S26} {i : Nat} (h : (i : Int) > 0) : prevA l i = some (rd_T26 l ((i : Int) - 1)) := by unfold prevA; rw [if_neg (by omega)]; rfl
theorem prevA_zero {l : List S26} {i : Nat} (h : ¬ (i : Int) > 0) : prevA l i = none := by unfold prevA; rw [if_pos (by omega)]
theorem areL_bad {p : Option S26} {c : S26} {R : List S26} (h : ¬ artC c = true) : areL p (c :: R) = false := by
  have h' : artC c = false := by simpa using h
  cases p <;> simp [areL, h']
theorem spec_AreArticles_l0 (l : List S26) (hl : l.length ≤ 4611686018427387904) (hs : ∀ c ∈ l, c.f0.size ≤ 4611686018427387904) : ∀ (R : List S26) (i : Nat), l.drop i = R → Ev (fun k => spec_AreArticles.l0 k l i) (areL (prevA l i) R && decide (l.length ≤ 12)) := by
  intro R
  induction R with
  | nil =>
    intro i h
    have := drop_nil h
    refine Ev.step (fun k => spec_AreArticles.l0.eq_2 ..) (ev_neg (by omega) (ev_ret ?_))
    have e : areL (prevA l i) [] = true := by unfold areL; rfl
    rw [e, Bool.true_and]
    exact decide_eq_decide.2 (by omega)
  | cons c R ih =>
    intro i h
    obtain ⟨h1, h2, h3⟩ := rdOf_drop (d := z26) h
    have h2' : rd_T26 l (i : Int) = c := h2
    obtain ⟨_, h4, _⟩ := drop_cons h
    have hc := hs c (List.mem_of_getElem? h4)
    have hn := ih (i + 1) h3
    rw [prevA_next h] at hn
    refine Ev.step (fun k => spec_AreArticles.l0.eq_2 ..) (ev_pos (by omega) (ev_pos (by omega) ?_))
    rw [h2', w64 (n := (i : Int) + 1) (by omega) (by omega)]
    refine (spec_IsArticle_ev c.f0 c.f1 c.f2 c.f3 c.f4 c.f5 c.f6 c.f7 c.f8 hc).bind ?_
    by_cases a : artC c = true
    · refine ev_pos a ?_
      by_cases g : (i : Int) > 0
      · refine ev_pos g ?_
        rw [w64 (n := (i : Int) - 1) (by omega) (by omega), prevA_at g]
        refine ev_pos (by omega) (ev_pos (by omega) ?_)
        by_cases u : Op.bytesLess (rd_T26 l ((i : Int) - 1)).f0.toList c.f0.toList = true
        · refine ev_pos u ?_
          have e : areL (some (rd_T26 l ((i : Int) - 1))) (c :: R) = areL (some c) R := by simp [areL, a, u]
          rw [e]; exact hn
        · refine ev_neg u (ev_ret ?_)
          have u' : Op.bytesLess (rd_T26 l ((i : Int) - 1)).f0.toList c.f0.toList = false := by simpa using u
          simp [areL, u']
      · refine ev_neg g ?_
        have e : areL none (c :: R) = areL (some c) R := by simp [areL, a]
        rw [prevA_zero g, e]; exact hn
    · exact ev_neg a (ev_ret (by rw [areL_bad a]; rfl))
theorem spec_AreArticles_ev (l : List S26) (hl : l.length ≤ 4611686018427387904) (hs : ∀ c ∈ l, c.f0.size ≤ 4611686018427387904) : Ev (fun k => spec_AreArticles.f k l) (areB l) := by
  have h := spec_AreArticles_l0 l hl hs l 0 rfl
  have e : prevA l 0 = none := by unfold prevA; rw [if_pos rfl]
  rw [e] at h
  exact h
theorem impl_AreArticles_l0 (l : List S26) (hl : l.length ≤ 4611686018427387904) (hs : ∀ c ∈ l, c.f0.size ≤ 4611686018427387904) : ∀ (R : List S26) (i : Nat), l.drop i = R → Ev (fun k => impl_AreArticles.l0 k l l (l.length : Int) i) (areL (prevA l i) R) := by
  intro R
  induction R with
  | nil =>
    intro i h
    have := drop_nil h
    refine Ev.step (fun k => impl_AreArticles.l0.eq_2 ..) (ev_neg (by omega) (ev_ret ?_))
    unfold areL; rfl
  | cons c R ih =>
    intro i h
    obtain ⟨h1, h2, h3⟩ := rdOf_drop (d := z26) h
    have h2' : rd_T26 l (i : Int) = c := h2
    obtain ⟨_, h4, _⟩ := drop_cons h
    have hc := hs c (List.mem_of_getElem? h4)
    have hn := ih (i + 1) h3
    rw [prevA_next h] at hn
    refine Ev.step (fun k => impl_AreArticles.l0.eq_2 ..) (ev_pos (by omega) (ev_pos (by omega) (ev_pos (by omega) ?_)))
    rw [h2', w64 (n := (i : Int) + 1) (by omega) (by omega)]
    refine (impl_IsArticle_ev c.f0 c.f1 c.f2 c.f3 c.f4 c.f5 c.f6 c.f7 c.f8 hc).bind ?_
    by_cases a : artC c = true
    · refine ev_pos a ?_
      by_cases g : (i : Int) > 0
      · refine ev_pos g ?_
        rw [w64 (n := (i : Int) - 1) (by omega) (by omega), prevA_at g]
        refine ev_pos (by omega) (ev_pos (by omega) ?_)
        by_cases u : Op.bytesLess (rd_T26 l ((i : Int) - 1)).f0.toList c.f0.toList = true
        · refine ev_pos u ?_
          have e : areL (some (rd_T26 l ((i : Int) - 1))) (c :: R) = areL (some c) R := by simp [areL, a, u]
          rw [e]; exact hn
        · refine ev_neg u (ev_ret ?_)
          have u' : Op.bytesLess (rd_T26 l ((i : Int) - 1)).f0.toList c.f0.toList = false := by simpa using u
          simp [areL, u']
      · refine ev_neg g ?_
        have e : areL none (c :: R) = areL (some c) R := by simp [areL, a]
        rw [prevA_zero g, e]; exact hn
    · exact ev_neg a (ev_ret (areL_bad a).symm)
theorem impl_AreArticles_ev (l : List S26) (hl : l.length ≤ 4611686018427387904) (hs : ∀ c ∈ l, c.f0.size ≤ 4611686018427387904) : Ev (fun k => impl_AreArticles.f k l) (areB l) := by
  have h := impl_AreArticles_l0 l hl hs l 0 rfl
  have e : prevA l 0 = none := by unfold prevA; rw [if_pos rfl]
  rw [e] at h
  unfold impl_AreArticles.f areB
  by_cases a : (l.length : Int) > 12
  · exact ev_pos a (ev_ret (by rw [decide_eq_false (by omega), Bool.and_false]))
  · refine ev_neg a ?_
    rw [decide_eq_true (by omega), Bool.and_true]
    exact h
/-! #### the article with a code -/
def findA (s : ByteArray) : List S26 → Nat → Int
  | [], _ => -1
  | c :: R, i => if c.f0.toList = s.toList then (i : Int) else findA s R (i + 1)
def findR (l : List S26) (s : ByteArray) : Int × Int := if areB l = true then (if findA s l 0 < 0 then (0, 4) else (findA s l 0, 0)) else (0, 1)
def netF : List S26 → List Int → Int → Int
  | c :: R, n :: S, x => netF R S (wrap64 (x + wrap64 (c.f7 * n)))
  | _, _, x => x
def cntB (l : List S26) (m : List Int) : Bool := decide (m.length = l.length) && decide (∀ n ∈ m, 0 ≤ n ∧ n ≤ 1000)
def netM (l : List S26) (m : List Int) : Int × Int := if areB l = true then (if cntB l m = true then (netF l m 0, 0) else (0, 2)) else (0, 1)
theorem spec_l03Code_l0 (l : List S26) (m : List Int) (hl : l.length ≤ 1000000000) (hm : m.length ≤ 1000000000) : ∀ (R : List Int) (i : Nat), m.drop i = R → Ev (fun k => spec_l03Code.l0 k l m i) (if (decide (m.length = l.length) && decide (∀ n ∈ R, 0 ≤ n ∧ n ≤ 1000)) = true then 0 else 2) := by
  intro R
  induction R with
  | nil =>
    intro i h
    have := drop_nil h
    refine Ev.step (fun k => spec_l03Code.l0.eq_2 ..) (ev_neg (by omega) ?_)
    by_cases g : m.length = l.length
    · exact ev_pos (by omega) (ev_ret (by simp [g]))
    · exact ev_neg (by omega) (ev_ret (by simp [g]))
  | cons c R ih =>
    intro i h
    obtain ⟨g1, g2, g3⟩ := rd_drop h
    refine Ev.step (fun k => spec_l03Code.l0.eq_2 ..) (ev_pos (by omega) (ev_pos (by omega) (ev_bind0 (in_eq ..) ?_)))
    rw [g2, w64 (n := (i : Int) + 1) (by omega) (by omega)]
    by_cases a : 0 ≤ c ∧ c ≤ 1000
    · refine ev_pos (by simpa using a) ?_
      have e : decide (∀ n ∈ c :: R, 0 ≤ n ∧ n ≤ 1000) = decide (∀ n ∈ R, 0 ≤ n ∧ n ≤ 1000) := decide_eq_decide.2 (by simp [a])
      rw [e]; exact ih (i + 1) g3
    · refine ev_neg (by simpa using a) (ev_ret ?_)
      have e : decide (∀ n ∈ c :: R, 0 ≤ n ∧ n ≤ 1000) = false := decide_eq_false (fun h => a (h c (by simp)))
      rw [e]; simp
theorem spec_NetOfOrder_l0 (l : List S26) (m : List Int) (hl : l.length ≤ 1000000000) (he : m.length = l.length) : ∀ (R : List S26) (S : List Int) (i : Nat) (x : Int), l.drop i = R → m.drop i = S → Ev (fun k => spec_NetOfOrder.l0 k l m x i) (netF R S x, 0) := by
  intro R
  induction R with
  | nil =>
    intro S i x h k
    have := drop_nil h
    exact Ev.step (fun k => spec_NetOfOrder.l0.eq_2 ..) (ev_neg (by omega) (ev_ret (by cases S <;> rfl)))
  | cons c R ih =>
    intro S i x h k
    obtain ⟨h1, h2, h3⟩ := rdOf_drop (d := z26) h
    have h2' : rd_T26 l (i : Int) = c := h2
    cases S with
    | nil => have := drop_nil k; omega
    | cons n S =>
      obtain ⟨k1, k2, k3⟩ := rd_drop k
      refine Ev.step (fun k => spec_NetOfOrder.l0.eq_2 ..) (ev_pos (by omega) (ev_pos (by omega) (ev_pos (by omega) ?_)))
      rw [h2', k2, w64 (n := (i : Int) + 1) (by omega) (by omega)]
      exact ih S (i + 1) _ h3 k3
theorem impl_NetOfOrder_l0 (l : List S26) (m : List Int) (hl : l.length ≤ 1000000000) (he : m.length = l.length) : ∀ (R : List S26) (S : List Int) (i : Nat) (x : Int), l.drop i = R → m.drop i = S → Ev (fun k => impl_NetOfOrder.l0 k m x l (l.length : Int) i) (netF R S x, 0) := by
  intro R
  induction R with
  | nil =>
    intro S i x h k
    have := drop_nil h
    exact Ev.step (fun k => impl_NetOfOrder.l0.eq_2 ..) (ev_neg (by omega) (ev_ret (by cases S <;> rfl)))
  | cons c R ih =>
    intro S i x h k
    obtain ⟨h1, h2, h3⟩ := rdOf_drop (d := z26) h
    have h2' : rd_T26 l (i : Int) = c := h2
    cases S with
    | nil => have := drop_nil k; omega
    | cons n S =>
      obtain ⟨k1, k2, k3⟩ := rd_drop k
      refine Ev.step (fun k => impl_NetOfOrder.l0.eq_2 ..) (ev_pos (by omega) (ev_pos (by omega) (ev_pos (by omega) (ev_pos (by omega) ?_))))
      rw [h2', k2, w64 (n := (i : Int) + 1) (by omega) (by omega)]
      exact ih S (i + 1) _ h3 k3
theorem impl_allWithin_l0 (l : List Int) (hl : l.length ≤ 4611686018427387904) (a b : Int) : ∀ (R : List Int) (i : Nat), l.drop i = R → Ev (fun k => impl_allWithin.l0 k a b l (l.length : Int) i) (decide (∀ n ∈ R, a ≤ n ∧ n ≤ b)) := by
  intro R
  induction R with
  | nil =>
    intro i h
    have := drop_nil h
    exact Ev.step (fun k => impl_allWithin.l0.eq_2 ..) (ev_neg (by omega) (ev_ret (by simp)))
  | cons n R ih =>
    intro i h
    obtain ⟨h1, h2, h3⟩ := rd_drop h
    refine Ev.step (fun k => impl_allWithin.l0.eq_2 ..) (ev_pos (by omega) (ev_pos (by omega) (ev_pos (by omega) ?_)))
    rw [h2, w64 (n := (i : Int) + 1) (by omega) (by omega)]
    refine ev_bind0 (within_eq ..) ?_
    by_cases g : a ≤ n ∧ n ≤ b
    · refine ev_pos (by simpa using g) ?_
      have e : (∀ m ∈ n :: R, a ≤ m ∧ m ≤ b) ↔ ∀ m ∈ R, a ≤ m ∧ m ≤ b := by simp [g]
      rw [decide_eq_decide.2 e]
      exact ih (i + 1) h3
    · exact ev_neg (by simpa using g) (ev_ret (by symm; exact decide_eq_false (fun h => g (h n (by simp)))))
theorem impl_areCounts_ev (l : List S26) (m : List Int) (hm : m.length ≤ 1000000000) : Ev (fun k => impl_areCounts.f k l m) (cntB l m) := by
  unfold cntB
  by_cases g : m.length = l.length
  · have e : Ev (fun k => impl_allWithin.f k m 0 1000) (decide (∀ n ∈ m, 0 ≤ n ∧ n ≤ 1000)) := impl_allWithin_l0 m (by omega) 0 1000 m 0 rfl
    exact ev_pos (by omega) (e.bind (ev_ret (by simp [g])))
  · exact ev_neg (by omega) (ev_ret (by simp [g]))
theorem spec_NetOfOrder_ev (l : List S26) (m : List Int) (hl : l.length ≤ 1000000000) (hm : m.length ≤ 1000000000) (hs : ∀ c ∈ l, c.f0.size ≤ 4611686018427387904) : Ev (fun k => spec_NetOfOrder.f k l m) (netM l m) := by
  have hc : Ev (fun k => spec_l03Code.f k l m) (if areB l = true then (if cntB l m = true then 0 else 2) else 1) := by
    refine (spec_AreArticles_ev l (by omega) hs).bind ?_
    by_cases a : areB l = true
    · refine ev_pos a ?_
      rw [if_pos a]
      exact spec_l03Code_l0 l m hl hm m 0 rfl
    · exact ev_neg a (ev_ret (by rw [if_neg a]))
  refine hc.bind ?_
  unfold netM
  by_cases a : areB l = true
  · rw [if_pos a, if_pos a]
    by_cases b : cntB l m = true
    · rw [if_pos b, if_pos b]
      have he : m.length = l.length := by unfold cntB at b; simp only [Bool.and_eq_true, decide_eq_true_eq] at b; exact b.1
      exact ev_pos rfl (spec_NetOfOrder_l0 l m hl he l m 0 0 rfl rfl)
    · rw [if_neg b, if_neg b]
      exact ev_neg (by decide) (Ev.now _)
  · rw [if_neg a, if_neg a]
    exact ev_neg (by decide) (Ev.now _)
theorem impl_NetOfOrder_ev (l : List S26) (m : List Int) (hl : l.length ≤ 1000000000) (hm : m.length ≤ 1000000000) (hs : ∀ c ∈ l, c.f0.size ≤ 4611686018427387904) : Ev (fun k => impl_NetOfOrder.f k l m) (netM l m) := by
  refine (impl_AreArticles_ev l (by omega) hs).bind ?_
  unfold netM
  by_cases a : areB l = true
  · refine ev_pos a ?_
    rw [if_pos a]
    refine (impl_areCounts_ev l m hm).bind ?_
    by_cases b : cntB l m = true
    · rw [if_pos b]
      have he : m.length = l.length := by unfold cntB at b; simp only [Bool.and_eq_true, decide_eq_true_eq] at b; exact b.1
      exact ev_pos b (impl_NetOfOrder_l0 l m hl he l m 0 0 rfl rfl)
    · rw [if_neg b]
      exact ev_neg b (Ev.now _)
  · rw [if_neg a]
    exact ev_neg a (Ev.now _)

/-! #### numbers with one more, each once -/
def insU : List Int → Int → List Int
  | [], n => [n]
  | c :: R, n => if c < n then c :: insU R n else if c = n then c :: R else n :: c :: R
theorem insU_mem (n t : Int) : ∀ l : List Int, t ∈ insU l n ↔ t ∈ l ∨ t = n
  | [] => by simp [insU]
  | c :: R => by
    unfold insU
    split
    · rw [List.mem_cons, insU_mem n t R, List.mem_cons]; exact or_assoc.symm
    · split
      · rename_i h; subst h; simp only [List.mem_cons]; constructor
        · intro h; exact .inl h
        · rintro (h | h)
          · exact h
          · exact .inl h
      · simp only [List.mem_cons]; constructor
        · rintro (h | h | h)
          · exact .inr h
          · exact .inl (.inl h)
          · exact .inl (.inr h)
        · rintro ((h | h) | h)
          · exact .inr (.inl h)
          · exact .inr (.inr h)
          · exact .inl h
theorem insU_pw (n : Int) : ∀ l : List Int, l.Pairwise (· < ·) → (insU l n).Pairwise (· < ·)
  | [], _ => by simp [insU]
  | c :: R, h => by
    have h1 := (List.pairwise_cons.1 h).1
    have h2 := (List.pairwise_cons.1 h).2
    unfold insU
    split
    · rename_i g
      refine List.pairwise_cons.2 ⟨fun t ht => ?_, insU_pw n R h2⟩
      rcases (insU_mem n t R).1 ht with ht | ht
      · exact h1 t ht
      · rw [ht]; exact g
    · split
      · exact h
      · refine List.pairwise_cons.2 ⟨fun t ht => ?_, h⟩
        rcases List.mem_cons.1 ht with rfl | ht
        · omega
        · have := h1 t ht; omega
theorem insU_len (n : Int) : ∀ l : List Int, (insU l n).length ≤ l.length + 1
  | [] => by simp [insU]
  | c :: R => by
    have := insU_len n R
    unfold insU
    split
    · simp; omega
    · split <;> simp
theorem spec_l03Insert_l0 (l : List Int) (hl : l.length ≤ 1000000) (n : Int) : ∀ (R : List Int) (i : Nat), l.drop i = R → i ≤ l.length → Ev (fun k => spec_l03Insert.l0 k l n i) (l.take i ++ insU R n) := by
  intro R
  induction R with
  | nil =>
    intro i h hi
    have := drop_nil h
    refine Ev.step (fun k => spec_l03Insert.l0.eq_2 ..) (ev_neg (by omega) (ev_pos ⟨by omega, by omega, by omega⟩ (ev_ret ?_)))
    rw [show ((i : Nat) : Int).toNat = i by omega, h]
    simp [insU]
  | cons c R ih =>
    intro i h hi
    obtain ⟨h1, h2, h3⟩ := rd_drop h
    obtain ⟨_, h4, _⟩ := drop_cons h
    refine Ev.step (fun k => spec_l03Insert.l0.eq_2 ..) (ev_pos (by omega) (ev_pos (by omega) ?_))
    rw [h2, w64 (n := (i : Int) + 1) (by omega) (by omega)]
    unfold insU
    by_cases g : c < n
    · have e := ih (i + 1) h3 (by omega)
      rw [List.take_add_one, h4] at e
      refine ev_pos g ?_
      rw [if_pos g]
      simpa using e
    · rw [if_neg g]
      refine ev_neg g ?_
      by_cases g2 : c = n
      · refine ev_pos g2 (ev_ret ?_)
        rw [if_pos g2, ← h, List.take_append_drop]
      · refine ev_neg g2 (ev_pos ⟨by omega, by omega, by omega⟩ (ev_ret ?_))
        rw [if_neg g2, show ((i : Nat) : Int).toNat = i by omega, h]
        simp
theorem spec_l03Insert_ev (l : List Int) (hl : l.length ≤ 1000000) (n : Int) : Ev (fun k => spec_l03Insert.f k l n) (insU l n) := by
  have := spec_l03Insert_l0 l hl n l 0 rfl (by omega)
  rw [List.take_zero, List.nil_append] at this
  exact this
theorem pw_ext : ∀ (l m : List Int), l.Pairwise (· < ·) → m.Pairwise (· < ·) → (∀ t, t ∈ l ↔ t ∈ m) → l = m
  | [], [], _, _, _ => rfl
  | [], b :: m, _, _, h => by have := (h b).2 (by simp); simp at this
  | a :: l, [], _, _, h => by have := (h a).1 (by simp); simp at this
  | a :: l, b :: m, hl, hm, h => by
    obtain ⟨l1, l2⟩ := List.pairwise_cons.1 hl
    obtain ⟨m1, m2⟩ := List.pairwise_cons.1 hm
    have e : a = b := by
      rcases List.mem_cons.1 ((h a).1 (by simp)) with e | e
      · exact e
      · rcases List.mem_cons.1 ((h b).2 (by simp)) with f | f
        · exact f.symm
        · have := m1 a e; have := l1 b f; omega
    subst e
    rw [pw_ext l m l2 m2 (fun t => ⟨fun ht => ?_, fun ht => ?_⟩)]
    · rcases List.mem_cons.1 ((h t).1 (by simp [ht])) with e | e
      · have := l1 t ht; omega
      · exact e
    · rcases List.mem_cons.1 ((h t).2 (by simp [ht])) with e | e
      · have := m1 t ht; omega
      · exact e

/-! ### the groups of an order -/
def mixF : List S26 → List Int → List Int → List Int
  | c :: R, n :: S, acc => if n > 0 then mixF R S (insU acc c.f8) else mixF R S acc
  | _, _, acc => acc
def mixM (l : List S26) (m : List Int) : List Int × Int := if areB l = true then (if cntB l m = true then (mixF l m [], 0) else ([], 2)) else ([], 1)
theorem mixF_nil (S acc : List Int) : mixF [] S acc = acc := by cases S <;> rfl
theorem spec_Mixed_l0 (l : List S26) (m : List Int) (hl : l.length ≤ 100000) (he : m.length = l.length) : ∀ (R : List S26) (S : List Int) (i : Nat) (acc : List Int), l.drop i = R → m.drop i = S → acc.length ≤ i → i ≤ l.length → Ev (fun k => spec_MixedGroups.l0 k l m acc i) (mixF R S acc, 0) := by
  intro R
  induction R with
  | nil =>
    intro S i acc h k _ _
    have := drop_nil h
    exact Ev.step (fun k => spec_MixedGroups.l0.eq_2 ..) (ev_neg (by omega) (ev_ret (by rw [mixF_nil])))
  | cons c R ih =>
    intro S i acc h k ha hi
    obtain ⟨h1, h2, h3⟩ := rdOf_drop (d := z26) h
    have h2' : rd_T26 l (i : Int) = c := h2
    cases S with
    | nil => have := drop_nil k; omega
    | cons n S =>
      obtain ⟨k1, k2, k3⟩ := rd_drop k
      refine Ev.step (fun k => spec_MixedGroups.l0.eq_2 ..) (ev_pos (by omega) (ev_pos (by omega) (ev_pos (by omega) ?_)))
      rw [h2', k2, w64 (n := (i : Int) + 1) (by omega) (by omega)]
      by_cases g : n > 0
      · rw [show mixF (c :: R) (n :: S) acc = mixF R S (insU acc c.f8) from if_pos g]
        have := insU_len c.f8 acc
        exact ev_pos g ((spec_l03Insert_ev acc (by omega) c.f8).bind (ih S (i + 1) _ h3 k3 (by omega) (by omega)))
      · rw [show mixF (c :: R) (n :: S) acc = mixF R S acc from if_neg g]
        exact ev_neg g (ih S (i + 1) acc h3 k3 (by omega) (by omega))
theorem spec_MixedGroups_ev (l : List S26) (m : List Int) (hl : l.length ≤ 100000) (hm : m.length ≤ 1000000000) (hs : ∀ c ∈ l, c.f0.size ≤ 4611686018427387904) : Ev (fun k => spec_MixedGroups.f k l m) (mixM l m) := by
  have hc : Ev (fun k => spec_l03Code.f k l m) (if areB l = true then (if cntB l m = true then 0 else 2) else 1) := by
    refine (spec_AreArticles_ev l (by omega) hs).bind ?_
    by_cases a : areB l = true
    · refine ev_pos a ?_
      rw [if_pos a]
      exact spec_l03Code_l0 l m (by omega) hm m 0 rfl
    · exact ev_neg a (ev_ret (by rw [if_neg a]))
  refine hc.bind ?_
  unfold mixM
  by_cases a : areB l = true
  · rw [if_pos a, if_pos a]
    by_cases b : cntB l m = true
    · rw [if_pos b, if_pos b]
      have he : m.length = l.length := by unfold cntB at b; simp only [Bool.and_eq_true, decide_eq_true_eq] at b; exact b.1
      exact ev_pos rfl (spec_Mixed_l0 l m hl he l m 0 [] rfl rfl (by simp) (by omega))
    · rw [if_neg b, if_neg b]
      exact ev_neg (by decide) (Ev.now _)
  · rw [if_neg a, if_neg a]
    exact ev_neg (by decide) (Ev.now _)
def outL (a b c d : Bool) : List Int := (if a = true then [0] else []) ++ ((if b = true then [1] else []) ++ ((if c = true then [2] else []) ++ (if d = true then [3] else [])))
theorem ins_out (a b c d : Bool) : insU (outL a b c d) 0 = outL true b c d ∧ insU (outL a b c d) 1 = outL a true c d ∧ insU (outL a b c d) 2 = outL a b true d ∧ insU (outL a b c d) 3 = outL a b c true := by
  cases a <;> cases b <;> cases c <;> cases d <;> decide
theorem mgI1_4 (a b c d : Bool) (out : List Int) : Ev (fun k => mgI1 k a b c d out 4) out := Ev.step (fun k => mgI1.eq_2 ..) (ev_neg (by decide) (Ev.now _))
theorem mgI1_3 (a b c d : Bool) (out : List Int) (h : out.length ≤ 100) : Ev (fun k => mgI1 k a b c d out 3) (out ++ (if d = true then [3] else [])) := by
  refine Ev.step (fun k => mgI1.eq_2 ..) (ev_pos (by decide) (ev_neg (by decide) (ev_neg (by decide) (ev_neg (by decide) (ev_pos rfl ?_)))))
  rw [w64 (n := (3 : Int) + 1) (by omega) (by omega)]
  by_cases g : d = true
  · rw [if_pos g]; exact ev_pos g (ev_pos (by omega) (mgI1_4 a b c d _))
  · rw [if_neg g, List.append_nil]; exact ev_neg g (mgI1_4 a b c d _)
theorem mgI1_2 (a b c d : Bool) (out : List Int) (h : out.length ≤ 90) : Ev (fun k => mgI1 k a b c d out 2) (out ++ ((if c = true then [2] else []) ++ (if d = true then [3] else []))) := by
  refine Ev.step (fun k => mgI1.eq_2 ..) (ev_pos (by decide) (ev_neg (by decide) (ev_neg (by decide) (ev_pos rfl ?_))))
  rw [w64 (n := (2 : Int) + 1) (by omega) (by omega), ← List.append_assoc]
  by_cases g : c = true
  · rw [if_pos g]; exact ev_pos g (ev_pos (by omega) (mgI1_3 a b c d _ (by simp; omega)))
  · rw [if_neg g, List.append_nil]; exact ev_neg g (mgI1_3 a b c d _ (by omega))
theorem mgI1_1 (a b c d : Bool) (out : List Int) (h : out.length ≤ 80) : Ev (fun k => mgI1 k a b c d out 1) (out ++ ((if b = true then [1] else []) ++ ((if c = true then [2] else []) ++ (if d = true then [3] else [])))) := by
  refine Ev.step (fun k => mgI1.eq_2 ..) (ev_pos (by decide) (ev_neg (by decide) (ev_pos rfl ?_)))
  rw [w64 (n := (1 : Int) + 1) (by omega) (by omega), ← List.append_assoc]
  by_cases g : b = true
  · rw [if_pos g]; exact ev_pos g (ev_pos (by omega) (mgI1_2 a b c d _ (by simp; omega)))
  · rw [if_neg g, List.append_nil]; exact ev_neg g (mgI1_2 a b c d _ (by omega))
theorem mgI1_0 (a b c d : Bool) : Ev (fun k => mgI1 k a b c d [] 0) (outL a b c d) := by
  refine Ev.step (fun k => mgI1.eq_2 ..) (ev_pos (by decide) (ev_pos rfl ?_))
  rw [w64 (n := (0 : Int) + 1) (by omega) (by omega)]
  unfold outL
  by_cases g : a = true
  · rw [if_pos g]; exact ev_pos g (ev_pos (by simp) (mgI1_1 a b c d [0] (by simp)))
  · rw [if_neg g, List.nil_append]
    have := mgI1_1 a b c d [] (by simp)
    rw [List.nil_append] at this
    exact ev_neg g this
theorem mgI0_ev (l : List S26) (m : List Int) (hl : l.length ≤ 1000000000) (he : m.length = l.length) : ∀ (R : List S26) (S : List Int) (i : Nat) (a b c d : Bool), l.drop i = R → m.drop i = S → (∀ x ∈ R, 0 ≤ x.f8 ∧ x.f8 ≤ 3) → Ev (fun k => mgI0 k l m a b c d i) (mixF R S (outL a b c d)) := by
  intro R
  induction R with
  | nil =>
    intro S i a b c d h k _
    have := drop_nil h
    rw [mixF_nil]
    exact Ev.step (fun k => mgI0.eq_2 ..) (ev_neg (by omega) (mgI1_0 a b c d))
  | cons x R ih =>
    intro S i a b c d h k hg
    obtain ⟨h1, h2, h3⟩ := rdOf_drop (d := z26) h
    have h2' : rd_T26 l (i : Int) = x := h2
    have hx := hg x (by simp)
    have hg' : ∀ y ∈ R, 0 ≤ y.f8 ∧ y.f8 ≤ 3 := fun y hy => hg y (by simp [hy])
    cases S with
    | nil => have := drop_nil k; omega
    | cons n S =>
      obtain ⟨k1, k2, k3⟩ := rd_drop k
      obtain ⟨o0, o1, o2, o3⟩ := ins_out a b c d
      refine Ev.step (fun k => mgI0.eq_2 ..) (ev_pos (by omega) (ev_pos ⟨by omega, by omega⟩ ?_))
      rw [h2', k2, w64 (n := (i : Int) + 1) (by omega) (by omega)]
      by_cases g : n > 0
      · rw [show mixF (x :: R) (n :: S) (outL a b c d) = mixF R S (insU (outL a b c d) x.f8) from if_pos g]
        refine ev_pos g ?_
        by_cases g0 : x.f8 = 0
        · rw [g0, o0]; exact ev_pos rfl (ih S (i + 1) true b c d h3 k3 hg')
        refine ev_neg g0 ?_
        by_cases g1 : x.f8 = 1
        · rw [g1, o1]; exact ev_pos rfl (ih S (i + 1) a true c d h3 k3 hg')
        refine ev_neg g1 ?_
        by_cases g2 : x.f8 = 2
        · rw [g2, o2]; exact ev_pos rfl (ih S (i + 1) a b true d h3 k3 hg')
        refine ev_neg g2 ?_
        by_cases g3 : x.f8 = 3
        · rw [g3, o3]; exact ev_pos rfl (ih S (i + 1) a b c true h3 k3 hg')
        · omega
      · rw [show mixF (x :: R) (n :: S) (outL a b c d) = mixF R S (outL a b c d) from if_neg g]
        exact ev_neg g (ih S (i + 1) a b c d h3 k3 hg')
theorem areL_art : ∀ (R : List S26) (p : Option S26), areL p R = true → ∀ c ∈ R, artC c = true
  | [], _, _, c, hc => by simp at hc
  | x :: R, p, h, c, hc => by
    cases p with
    | none =>
      simp only [areL, Bool.and_eq_true] at h
      rcases List.mem_cons.1 hc with rfl | hc
      · exact h.1
      · exact areL_art R (some x) h.2 c hc
    | some q =>
      simp only [areL, Bool.and_eq_true] at h
      rcases List.mem_cons.1 hc with rfl | hc
      · exact h.1
      · exact areL_art R (some x) h.2.2 c hc
theorem areB_art {l : List S26} (h : areB l = true) : (∀ c ∈ l, artC c = true) ∧ l.length ≤ 12 := by
  unfold areB at h
  simp only [Bool.and_eq_true, decide_eq_true_eq] at h
  exact ⟨areL_art l none h.1, h.2⟩
theorem art_group {c : S26} (h : artC c = true) : 0 ≤ c.f8 ∧ c.f8 ≤ 3 := (artB_true h).2.2.2.2.2.2.2.2
theorem impl_MixedGroups_ev (l : List S26) (m : List Int) (hl : l.length ≤ 1000000000) (hm : m.length ≤ 1000000000) (hs : ∀ c ∈ l, c.f0.size ≤ 4611686018427387904) : Ev (fun k => impl_MixedGroups.f k l m) (mixM l m) := by
  refine (impl_AreArticles_ev l (by omega) hs).bind ?_
  unfold mixM
  by_cases a : areB l = true
  · refine ev_pos a ?_
    rw [if_pos a]
    refine (impl_areCounts_ev l m hm).bind ?_
    by_cases b : cntB l m = true
    · rw [if_pos b]
      have he : m.length = l.length := by unfold cntB at b; simp only [Bool.and_eq_true, decide_eq_true_eq] at b; exact b.1
      have h := mgI0_ev l m hl he l m 0 false false false false rfl rfl (fun c hc => art_group ((areB_art a).1 c hc))
      exact ev_pos b (h.bind (Ev.now _))
    · rw [if_neg b]
      exact ev_neg b (Ev.now _)
  · rw [if_neg a]
    exact ev_neg a (Ev.now _)
theorem mixF_len : ∀ (R : List S26) (S acc : List Int), (mixF R S acc).length ≤ acc.length + R.length
  | [], S, acc => by rw [mixF_nil]; omega
  | c :: R, [], acc => by show acc.length ≤ _; omega
  | c :: R, n :: S, acc => by
    by_cases g : n > 0
    · rw [show mixF (c :: R) (n :: S) acc = mixF R S (insU acc c.f8) from if_pos g]
      have := mixF_len R S (insU acc c.f8)
      have := insU_len c.f8 acc
      simp only [List.length_cons]; omega
    · rw [show mixF (c :: R) (n :: S) acc = mixF R S acc from if_neg g]
      have := mixF_len R S acc
      simp only [List.length_cons]; omega
theorem mixM_len (l : List S26) (m : List Int) : (mixM l m).1.length ≤ 12 := by
  unfold mixM
  split
  · rename_i a
    split
    · have h1 := (areB_art a).2
      have h2 := mixF_len l m []
      simp only [List.length_nil] at h2
      show (mixF l m []).length ≤ 12
      omega
    · simp
  · simp

/-! ### numbers that follow from a code -/
def Code (c : List Int) : Prop := (∀ x ∈ c, 0 ≤ x ∧ x ≤ 255) ∧ c.length ≤ 5000
def Src (c : List Int) (a s : Int) : Prop := Code c ∧ (0 ≤ a ∧ a ≤ c.length) ∧ 0 ≤ s ∧ s < 2147483647
theorem rd_code {c : List Int} (h : Code c) {i : Int} (h0 : 0 ≤ i) (h1 : i < c.length) : 0 ≤ rd c i ∧ rd c i ≤ 255 := by
  unfold rd
  have hi : i.toNat < c.length := by omega
  rw [List.getD_eq_getElem?_getD, List.getElem?_eq_getElem hi]
  exact h.1 _ (List.getElem_mem hi)
theorem tmod_nn {a b : Int} (ha : 0 ≤ a) : Int.tmod a b = a % b := Int.tmod_eq_emod_of_nonneg ha
theorem tmod_in {a b : Int} (ha : 0 ≤ a) (hb : 0 < b) : 0 ≤ Int.tmod a b ∧ Int.tmod a b < b := by
  rw [tmod_nn ha]
  exact ⟨Int.emod_nonneg a (by omega), Int.emod_lt_of_pos a hb⟩
theorem l01Next_some {c : List Int} {a s n : Int} (h : Src c a s) (hn : n ≤ 4611686018427387904) : ∃ x a' s', spec_l01Next.f c a s n = some (x, a', s') ∧ Src c a' s' ∧ 0 ≤ x ∧ (1 ≤ n → x < n) ∧ (n ≤ 1 → x = 0) := by
  obtain ⟨hc, ⟨a0, a1⟩, s0, s1⟩ := h
  have hl := hc.2
  unfold spec_l01Next.f
  by_cases g : n ≤ 1
  · rw [if_pos g]
    exact ⟨0, a, s, rfl, ⟨hc, ⟨a0, a1⟩, s0, s1⟩, by omega, by omega, by omega⟩
  · rw [if_neg g]
    have e1 : wrap64 ((wrap64 (s * 48271)) + 29) = s * 48271 + 29 := by
      rw [w64 (n := s * 48271) (by omega) (by omega), w64 (by omega) (by omega)]
    have e2 := tmod_in (a := s * 48271 + 29) (b := 2147483647) (by omega) (by omega)
    rw [e1]
    generalize Int.tmod (s * 48271 + 29) 2147483647 = s' at *
    have e3 : wrap64 (Int.tdiv s' 31) = s' / 31 := by rw [Int.tdiv_eq_ediv_of_nonneg (by omega), w64 (by omega) (by omega)]
    rw [e3]
    by_cases g1 : a < (c.length : Int)
    · have hr := rd_code hc a0 g1
      rw [if_pos g1, if_pos a0, w64 (n := a + 1) (by omega) (by omega), w64 (n := a + 1 - 1) (by omega) (by omega), show a + 1 - 1 = a by omega, w64 (n := rd c a) (by omega) (by omega), w64 (n := s' / 31 + rd c a) (by omega) (by omega)]
      have t1 := tmod_in (a := rd c a) (b := n) (by omega) (by omega)
      have t2 := tmod_in (a := s' / 31 + rd c a) (b := n) (by omega) (by omega)
      have fin : Src c (a + 1) s' := ⟨hc, ⟨by omega, by omega⟩, e2⟩
      by_cases g2 : n ≤ 256
      · rw [if_pos g2]
        by_cases g3 : Int.tmod (a + 1) 2 = 0
        · rw [if_pos g3, if_pos a0, if_pos g1, if_neg (by omega)]
          exact ⟨_, _, _, rfl, fin, t1.1, fun _ => t1.2, by omega⟩
        · rw [if_neg g3, if_neg (by omega)]
          exact ⟨_, _, _, rfl, fin, t2.1, fun _ => t2.2, by omega⟩
      · rw [if_neg g2, if_neg (by omega)]
        exact ⟨_, _, _, rfl, fin, t2.1, fun _ => t2.2, by omega⟩
    · have t2 := tmod_in (a := s' / 31) (b := n) (by omega) (by omega)
      rw [if_neg g1, if_neg (by omega)]
      exact ⟨_, _, _, rfl, ⟨hc, ⟨a0, a1⟩, e2⟩, t2.1, fun _ => t2.2, by omega⟩
theorem l01Pick_some {c : List Int} {a s : Int} (h : Src c a s) {l : List Int} (hl : 1 ≤ l.length) (hl' : l.length ≤ 1000) : ∃ x a' s', spec_l01Pick.f c a s l = some (x, a', s') ∧ Src c a' s' ∧ x ∈ l := by
  obtain ⟨x, a', s', e, h', x0, x1, _⟩ := l01Next_some h (n := (l.length : Int)) (by omega)
  have x2 := x1 (by omega)
  unfold spec_l01Pick.f
  rw [e, Option.bind_some, if_pos x0, if_pos x2]
  refine ⟨_, _, _, rfl, h', ?_⟩
  unfold rd
  have hi : x.toNat < l.length := by omega
  rw [List.getD_eq_getElem?_getD, List.getElem?_eq_getElem hi]
  exact List.getElem_mem hi
theorem l01From_l0 {c : List Int} (hc : Code c) : ∀ (d : Nat) (i : Int) (s : Int), 64 - i = d → 0 ≤ i → 0 ≤ s → s < 2147483647 → ∃ s', Ev (fun k => spec_l01From.l0 k c i c 0 s) (c, 0, s') ∧ Src c 0 s' := by
  intro d
  have hl := hc.2
  induction d with
  | zero =>
    intro i s hd h0 s0 s1
    refine ⟨s, Ev.step (fun k => spec_l01From.l0.eq_2 ..) ?_, hc, ⟨by omega, by omega⟩, s0, s1⟩
    by_cases g : i < (c.length : Int)
    · exact ev_pos g (ev_neg (by omega) (Ev.now _))
    · exact ev_neg g (Ev.now _)
  | succ d ih =>
    intro i s hd h0 s0 s1
    by_cases g : i < (c.length : Int)
    · have hr := rd_code hc h0 g
      have e1 : wrap64 ((wrap64 (s * 83)) + (wrap64 (rd c i))) = s * 83 + rd c i := by
        rw [w64 (n := s * 83) (by omega) (by omega), w64 (n := rd c i) (by omega) (by omega), w64 (by omega) (by omega)]
      have e2 := tmod_in (a := s * 83 + rd c i) (b := 2147483647) (by omega) (by omega)
      obtain ⟨s', hs, h⟩ := ih (i + 1) (Int.tmod (s * 83 + rd c i) 2147483647) (by omega) (by omega) e2.1 e2.2
      refine ⟨s', Ev.step (fun k => spec_l01From.l0.eq_2 ..) (ev_pos g (ev_pos (by omega) (ev_pos h0 ?_))), h⟩
      rw [e1, w64 (by omega) (by omega)]
      exact hs
    · exact ⟨s, Ev.step (fun k => spec_l01From.l0.eq_2 ..) (ev_neg g (Ev.now _)), hc, ⟨by omega, by omega⟩, s0, s1⟩
theorem l01From_ev {c : List Int} (hc : Code c) : ∃ s, Ev (fun k => spec_l01From.f k c) (c, 0, s) ∧ Src c 0 s :=
  l01From_l0 hc 64 0 61043 (by omega) (by omega) (by omega) (by omega)
/-! ### dice -/
def Dice (c : List Int) (i h : Int) : Prop := Code c ∧ (0 ≤ i ∧ i ≤ c.length) ∧ 0 ≤ h ∧ h ≤ 18446744073709551615
theorem u64w (n : Int) : 0 ≤ IntKind.u64.wrap n ∧ IntKind.u64.wrap n ≤ 18446744073709551615 := by
  have e : IntKind.u64.wrap n = n % 18446744073709551616 := by rfl
  omega
theorem roll_l0 {c : List Int} (hc : Code c) : ∀ (d : Nat) (i : Int) (h : Int), (c.length : Int) - i = d → 0 ≤ i → 0 ≤ h → h ≤ 18446744073709551615 → ∃ h', Ev (fun k => laws_roll.l0 k c i c 0 h) (c, 0, h') ∧ Dice c 0 h' := by
  intro d
  have hl := hc.2
  induction d with
  | zero =>
    intro i h hd h0 s0 s1
    exact ⟨h, Ev.step (fun k => laws_roll.l0.eq_2 ..) (ev_neg (by omega) (Ev.now _)), hc, ⟨by omega, by omega⟩, s0, s1⟩
  | succ d ih =>
    intro i h hd h0 s0 s1
    have e := u64w ((IntKind.u64.wrap ((IntKind.u64.wrap (h * 1099511628211)) + (IntKind.u64.wrap (rd c i)))) + 3)
    obtain ⟨h', hs, k⟩ := ih (i + 1) (IntKind.u64.wrap ((IntKind.u64.wrap ((IntKind.u64.wrap (h * 1099511628211)) + (IntKind.u64.wrap (rd c i)))) + 3)) (by omega) (by omega) e.1 e.2
    refine ⟨h', Ev.step (fun k => laws_roll.l0.eq_2 ..) (ev_pos (by omega) (ev_pos h0 ?_)), k⟩
    rw [w64 (by omega) (by omega)]
    exact hs
theorem roll_ev {c : List Int} (hc : Code c) (n : Int) : ∃ h, Ev (fun k => laws_roll.f k c n) (c, 0, h) ∧ Dice c 0 h := by
  have e := u64w ((IntKind.u64.wrap (n * 7919)) + (IntKind.u64.wrap ((c.length : Int))))
  exact roll_l0 hc c.length 0 _ (by omega) (by omega) e.1 e.2
theorem below_some {c : List Int} {i h n : Int} (hd : Dice c i h) (hn : 1 ≤ n) : ∃ x i' h', laws_dice_below.f c i h n = some (x, i', h') ∧ Dice c i' h' ∧ 0 ≤ x ∧ x < n := by
  obtain ⟨hc, ⟨i0, i1⟩, h0, h1⟩ := hd
  have hl := hc.2
  unfold laws_dice_below.f
  have e := u64w ((IntKind.u64.wrap (h * 6364136223846793005)) + 1442695040888963407)
  generalize IntKind.u64.wrap ((IntKind.u64.wrap (h * 6364136223846793005)) + 1442695040888963407) = g at *
  have p32 : (2 : Int) ^ 32 = 4294967296 := by decide
  have wr : ∀ z : Int, 0 ≤ z → z < 2 ^ 32 → IntKind.u64.wrap z = z := fun z z0 z1 => by
    have e : IntKind.u64.wrap z = z % 18446744073709551616 := rfl
    omega
  have hg : g / 8589934592 < 2 ^ 32 := by omega
  have m : Go.bits .and .u64 (g / 8589934592) 16777215 = g / 8589934592 % 16777216 := bits_mask .u64 32 (by decide) wr 24 (by decide) (g / 8589934592) (by omega) hg
  rw [m]
  by_cases a : i < (c.length : Int)
  · have hr := rd_code hc i0 a
    have t := tmod_in (a := g / 8589934592 % 16777216 + rd c i) (b := n) (by omega) (by omega)
    rw [if_pos a, if_pos i0, if_neg (by omega), w64 (n := g / 8589934592 % 16777216) (by omega) (by omega), w64 (n := rd c i) (by omega) (by omega), w64 (n := g / 8589934592 % 16777216 + rd c i) (by omega) (by omega), w64 (n := i + 1) (by omega) (by omega)]
    exact ⟨_, _, _, rfl, ⟨hc, ⟨by omega, by omega⟩, e⟩, t.1, t.2⟩
  · have t := tmod_in (a := g / 8589934592 % 16777216) (b := n) (by omega) (by omega)
    rw [if_neg a, if_neg (by omega), w64 (n := g / 8589934592 % 16777216) (by omega) (by omega)]
    exact ⟨_, _, _, rfl, ⟨hc, ⟨i0, i1⟩, e⟩, t.1, t.2⟩
theorem big_false {c : List Int} (h : ¬ (c.length : Int) > 4096) : laws_big.f c = some false := by unfold laws_big.f; simp; omega
theorem big_true {c : List Int} (h : (c.length : Int) > 4096) : laws_big.f c = some true := by unfold laws_big.f; simp; omega
theorem code_of {c : List Int} (h : ∀ x ∈ c, (Lit.int .u8 x).wf = true) (hl : ¬ (c.length : Int) > 4096) : Code c := ⟨fun x hx => bd8 (h x hx), by omega⟩

theorem pick12 {d : ByteArray} {l : List ByteArray} {x : Int} (h0 : 0 ≤ x) (h1 : x < l.length) : rdOf d l x ∈ l := by
  have hx : x.toNat < l.length := by omega
  unfold rdOf
  rw [List.getD_eq_getElem?_getD, List.getElem?_eq_getElem hx]
  exact List.getElem_mem hx
theorem l01Good_some {c : List Int} {a s : Int} (h : Src c a s) : ∃ x a' s', spec_l01Good.f c a s = some (x, a', s') ∧ Src c a' s' ∧ x.size ≤ 17 := by
  obtain ⟨x0, a0, s0, e0, h0, b0, c0, _⟩ := l01Next_some h (n := 12) (by omega)
  have c0 := c0 (by omega)
  unfold spec_l01Good.f
  rw [Option.bind_some, e0, Option.bind_some, if_pos b0, if_pos (by simpa using c0)]
  refine ⟨_, _, _, rfl, h0, ?_⟩
  have := pick12 (d := ByteArray.empty) (l := [(⟨#[97, 100, 97]⟩ : ByteArray), (⟨#[98, 114, 117, 110, 111]⟩ : ByteArray), (⟨#[99, 108, 97, 114, 97]⟩ : ByteArray), (⟨#[100, 111, 114, 97]⟩ : ByteArray), (⟨#[101, 109, 105, 108]⟩ : ByteArray), (⟨#[102, 114, 105, 100, 97]⟩ : ByteArray), (⟨#[103, 117, 115, 116, 97, 118]⟩ : ByteArray), (⟨#[104, 97, 110, 110, 97]⟩ : ByteArray), (⟨#[105, 118, 97, 110]⟩ : ByteArray), (⟨#[106, 97, 110, 97]⟩ : ByteArray), (⟨#[107, 97, 114, 108]⟩ : ByteArray), (⟨#[108, 101, 110, 97]⟩ : ByteArray)]) b0 (by simpa using c0)
  revert this
  generalize rdOf _ _ _ = w
  intro hw
  simp only [List.mem_cons, List.not_mem_nil, or_false] at hw
  rcases hw with rfl | rfl | rfl | rfl | rfl | rfl | rfl | rfl | rfl | rfl | rfl | rfl <;> decide
theorem l01DrawWord_some {c : List Int} {a s : Int} (h : Src c a s) : ∃ x a' s', spec_l01DrawWord.f c a s = some (x, a', s') ∧ Src c a' s' ∧ x.size ≤ 17 := by
  obtain ⟨x0, a0, s0, e0, h0, _⟩ := l01Next_some h (n := 24) (by omega)
  unfold spec_l01DrawWord.f
  rw [e0, Option.bind_some]
  by_cases g : x0 = 0
  · obtain ⟨x1, a1, s1, e1, h1, b1, c1, _⟩ := l01Next_some h0 (n := 6) (by omega)
    have c1 := c1 (by omega)
    rw [if_pos g, Option.bind_some, e1, Option.bind_some, if_pos b1, if_pos (by simpa using c1)]
    refine ⟨_, _, _, rfl, h1, ?_⟩
    have := pick12 (d := ByteArray.empty) (l := [(⟨#[]⟩ : ByteArray), (⟨#[65, 100, 97]⟩ : ByteArray), (⟨#[97, 49]⟩ : ByteArray), (⟨#[97, 98, 99, 100, 101, 102, 103, 104, 105, 106, 107, 108, 109, 110, 111, 112]⟩ : ByteArray), (⟨#[97, 98, 99, 100, 101, 102, 103, 104, 105, 106, 107, 108, 109, 110, 111, 112, 113]⟩ : ByteArray), (⟨#[97, 32, 98]⟩ : ByteArray)]) b1 (by simpa using c1)
    revert this
    generalize rdOf _ _ _ = w
    intro hw
    simp only [List.mem_cons, List.not_mem_nil, or_false] at hw
    rcases hw with rfl | rfl | rfl | rfl | rfl | rfl <;> decide
  · obtain ⟨x1, a1, s1, e1, h1, hx⟩ := l01Good_some h0
    rw [if_neg g, e1]
    exact ⟨_, _, _, rfl, h1, hx⟩
/-! ### drawn articles -/
theorem l03Good_some {c : List Int} {a s : Int} (h : Src c a s) (nm : ByteArray) : ∃ x1 x2 x3 x4 x5 x6 x7 x8 a' s', spec_l03Good.f c a s nm = some (nm, x1, x2, x3, x4, x5, x6, x7, x8, a', s') ∧ Src c a' s' := by
  obtain ⟨y1, a1, s1, e1, h1, _⟩ := l01Next_some h (n := 4) (by omega)
  obtain ⟨y2, a2, s2, e2, h2, _⟩ := l01Next_some h1 (n := 281) (by omega)
  obtain ⟨y3, a3, s3, e3, h3, _⟩ := l01Pick_some h2 (l := [50, 75, 100, 150, wrap64 (20 + y2)]) (by simp) (by simp)
  obtain ⟨y4, a4, s4, e4, h4, _⟩ := l01Next_some h3 (n := 5000) (by omega)
  obtain ⟨y5, a5, s5, e5, h5, _⟩ := l01Next_some h4 (n := 300) (by omega)
  obtain ⟨y6, a6, s6, e6, h6, _⟩ := l01Next_some h5 (n := 2000) (by omega)
  obtain ⟨y7, a7, s7, e7, h7, _⟩ := l01Next_some h6 (n := 4) (by omega)
  unfold spec_l03Good.f
  by_cases g1 : y1 = 1
  · obtain ⟨y8, a8, s8, e8, h8, _⟩ := l01Next_some h7 (n := 8) (by omega)
    obtain ⟨y9, a9, s9, e9, h9, _⟩ := l01Next_some h8 (n := 2000) (by omega)
    have g2 : ¬ y1 = 2 := by omega
    simp only [e1, e2, e3, e4, e5, e6, e7, e8, e9, Option.bind_some, if_pos g1, if_neg g2]
    exact ⟨_, _, _, _, _, _, _, _, a9, s9, rfl, h9⟩
  · by_cases g2 : y1 = 2
    · simp only [e1, e2, e3, e4, e5, e6, e7, Option.bind_some, if_neg g1, if_pos g2]
      exact ⟨_, _, _, _, _, _, _, _, a7, s7, rfl, h7⟩
    · simp only [e1, e2, e3, e4, e5, e6, e7, Option.bind_some, if_neg g1, if_neg g2]
      exact ⟨_, _, _, _, _, _, _, _, a7, s7, rfl, h7⟩
theorem l03Draw_some {c : List Int} {a s : Int} (h : Src c a s) (nm : ByteArray) (hn : nm.size ≤ 17) : ∃ m x1 x2 x3 x4 x5 x6 x7 x8 a' s', spec_l03Draw.f c a s nm = some (m, x1, x2, x3, x4, x5, x6, x7, x8, a', s') ∧ Src c a' s' ∧ m.size ≤ 17 := by
  obtain ⟨x1, x2, x3, x4, x5, x6, x7, x8, a0, s0, e0, h0⟩ := l03Good_some h nm
  obtain ⟨y, a1, s1, e1, h1, _⟩ := l01Next_some h0 (n := 60) (by omega)
  unfold spec_l03Draw.f
  by_cases g0 : y = 0
  · obtain ⟨z, a2, s2, e2, h2, _⟩ := l01Pick_some h1 (l := [19, 20, 300, 301]) (by simp) (by simp)
    simp only [e0, e1, e2, Option.bind_some, if_pos g0]
    exact ⟨_, _, _, _, _, _, _, _, _, a2, s2, rfl, h2, hn⟩
  by_cases g1 : y = 1
  · obtain ⟨z, a2, s2, e2, h2, _⟩ := l01Pick_some h1 (l := [x3, wrap64 (x3 + 1), (-1)]) (by simp) (by simp)
    simp only [e0, e1, e2, Option.bind_some, if_neg g0, if_pos g1]
    exact ⟨_, _, _, _, _, _, _, _, _, a2, s2, rfl, h2, hn⟩
  by_cases g2 : y = 2
  · obtain ⟨z, a2, s2, e2, h2, _⟩ := l01Pick_some h1 (l := [0, 50, 51]) (by simp) (by simp)
    simp only [e0, e1, e2, Option.bind_some, if_neg g0, if_neg g1, if_pos g2]
    exact ⟨_, _, _, _, _, _, _, _, _, a2, s2, rfl, h2, hn⟩
  by_cases g3 : y = 3
  · obtain ⟨z, a2, s2, e2, h2, hz⟩ := l01DrawWord_some h1
    simp only [e0, e1, e2, Option.bind_some, if_neg g0, if_neg g1, if_neg g2, if_pos g3]
    exact ⟨_, _, _, _, _, _, _, _, _, a2, s2, rfl, h2, hz⟩
  by_cases g4 : y = 4
  · obtain ⟨z, a2, s2, e2, h2, _⟩ := l01Pick_some h1 (l := [0, 100000, 100001]) (by simp) (by simp)
    simp only [e0, e1, e2, Option.bind_some, if_neg g0, if_neg g1, if_neg g2, if_neg g3, if_pos g4]
    exact ⟨_, _, _, _, _, _, _, _, _, a2, s2, rfl, h2, hn⟩
  · simp only [e0, e1, Option.bind_some, if_neg g0, if_neg g1, if_neg g2, if_neg g3, if_neg g4]
    exact ⟨_, _, _, _, _, _, _, _, _, a1, s1, rfl, h1, hn⟩
/-! ### drawn lists of articles -/
theorem l03List_l1 {c : List Int} : ∀ (d : Nat) (out : List S26) (i a s : Int), Src c a s → 0 ≤ i → i + d = 14 → out.length + d ≤ 40 → (∀ x ∈ out, x.f0.size ≤ 17) → ∃ l a' s', Ev (fun k => spec_l03List.l1 k out i c a s) (l, a', s') ∧ Src c a' s' ∧ l.length ≤ 40 ∧ ∀ x ∈ l, x.f0.size ≤ 17 := by
  intro d
  induction d with
  | zero =>
    intro out i a s h h0 h1 h2 h3
    obtain ⟨y, a1, s1, e1, hs1, _⟩ := l01Next_some h (n := 2) (by omega)
    by_cases g : (out.length : Int) < wrap64 (12 + y)
    · exact ⟨_, _, _, Ev.step (fun k => spec_l03List.l1.eq_2 ..) (ev_bind0 e1 (ev_pos g (ev_neg (by omega) (Ev.now _)))), hs1, by omega, h3⟩
    · exact ⟨_, _, _, Ev.step (fun k => spec_l03List.l1.eq_2 ..) (ev_bind0 e1 (ev_neg g (Ev.now _))), hs1, by omega, h3⟩
  | succ d ih =>
    intro out i a s h h0 h1 h2 h3
    obtain ⟨y, a1, s1, e1, hs1, _⟩ := l01Next_some h (n := 2) (by omega)
    by_cases g : (out.length : Int) < wrap64 (12 + y)
    · have hi : wrap64 (i + 1) = i + 1 := w64 (by omega) (by omega)
      have hsz : ((⟨#[97, 98, 99, 100, 101, 102, 103, 104, 105, 106, 107, 108, 109, 110]⟩ : ByteArray).extract i.toNat (wrap64 (i + 1)).toNat).size ≤ 14 := by
        rw [ByteArray.size_extract]
        have : (⟨#[97, 98, 99, 100, 101, 102, 103, 104, 105, 106, 107, 108, 109, 110]⟩ : ByteArray).size = 14 := by decide
        omega
      have hnm : ((⟨#[120]⟩ : ByteArray) ++ ((⟨#[97, 98, 99, 100, 101, 102, 103, 104, 105, 106, 107, 108, 109, 110]⟩ : ByteArray).extract i.toNat (wrap64 (i + 1)).toNat)).size ≤ 17 := by
        rw [ByteArray.size_append]
        have : (⟨#[120]⟩ : ByteArray).size = 1 := by decide
        omega
      obtain ⟨x1, x2, x3, x4, x5, x6, x7, x8, a2, s2, e2, hs2⟩ := l03Good_some hs1 ((⟨#[120]⟩ : ByteArray) ++ ((⟨#[97, 98, 99, 100, 101, 102, 103, 104, 105, 106, 107, 108, 109, 110]⟩ : ByteArray).extract i.toNat (wrap64 (i + 1)).toNat))
      obtain ⟨l, a', s', e3, h4, h5, h6⟩ := ih (out ++ [(⟨_, x1, x2, x3, x4, x5, x6, x7, x8⟩ : S26)]) (wrap64 (i + 1)) a2 s2 hs2 (by omega) (by omega) (by simp; omega) (by
        intro x hx
        rcases List.mem_append.1 hx with hx | hx
        · exact h3 x hx
        · rw [List.mem_singleton.1 hx]; exact hnm)
      exact ⟨l, a', s', Ev.step (fun k => spec_l03List.l1.eq_2 ..) (ev_bind0 e1 (ev_pos g (ev_pos (by omega) (ev_pos h0 (ev_pos (by omega) (ev_pos (by omega) (ev_pos (by omega) (ev_bind0 e2 (ev_pos (by omega) e3))))))))), h4, h5, h6⟩
    · exact ⟨_, _, _, Ev.step (fun k => spec_l03List.l1.eq_2 ..) (ev_bind0 e1 (ev_neg g (Ev.now _))), hs1, by omega, h3⟩
theorem l03List_l0 {c : List Int} (ns : List ByteArray) (hns : ns.length = 6) (hnz : ∀ n ∈ ns, n.size ≤ 17) : ∀ (d : Nat) (out : List S26) (i a s : Int), Src c a s → 0 ≤ i → i + d = 6 → (out.length : Int) ≤ i → (∀ x ∈ out, x.f0.size ≤ 17) → ∃ l a' s', Ev (fun k => spec_l03List.l0 k out ns i c a s) (l, a', s') ∧ Src c a' s' ∧ l.length ≤ 40 ∧ ∀ x ∈ l, x.f0.size ≤ 17 := by
  intro d
  induction d with
  | zero =>
    intro out i a s h h0 h1 h2 h3
    obtain ⟨y, a1, s1, e1, hs1, _⟩ := l01Next_some h (n := 30) (by omega)
    by_cases g : y = 0
    · obtain ⟨x1, x2, x3, x4, x5, x6, x7, x8, a2, s2, e2, hs2⟩ := l03Good_some hs1 (⟨#[97, 115, 116, 101, 114]⟩ : ByteArray)
      refine ⟨_, _, _, Ev.step (fun k => spec_l03List.l0.eq_2 ..) (ev_neg (by omega) (ev_bind0 e1 (ev_pos g (ev_bind0 e2 (ev_pos (by omega) (Ev.now _)))))), hs2, by simp; omega, ?_⟩
      intro x hx
      rcases List.mem_append.1 hx with hx | hx
      · exact h3 x hx
      · rw [List.mem_singleton.1 hx]; show (⟨#[97, 115, 116, 101, 114]⟩ : ByteArray).size ≤ 17; decide
    by_cases g1 : y = 1
    · obtain ⟨l, a', s', e3, h4, h5, h6⟩ := l03List_l1 14 out 0 a1 s1 hs1 (by omega) (by omega) (by omega) h3
      exact ⟨l, a', s', Ev.step (fun k => spec_l03List.l0.eq_2 ..) (ev_neg (by omega) (ev_bind0 e1 (ev_neg g (ev_pos g1 e3)))), h4, h5, h6⟩
    · exact ⟨_, _, _, Ev.step (fun k => spec_l03List.l0.eq_2 ..) (ev_neg (by omega) (ev_bind0 e1 (ev_neg g (ev_neg g1 (Ev.now _))))), hs1, by omega, h3⟩
  | succ d ih =>
    intro out i a s h h0 h1 h2 h3
    obtain ⟨y, a1, s1, e1, hs1, _⟩ := l01Next_some h (n := 3) (by omega)
    have hi : wrap64 (i + 1) = i + 1 := w64 (by omega) (by omega)
    by_cases g : y > 0
    · obtain ⟨m, x1, x2, x3, x4, x5, x6, x7, x8, a2, s2, e2, hs2, hm⟩ := l03Draw_some hs1 (rdOf ByteArray.empty ns i) (hnz _ (pick12 h0 (by omega)))
      obtain ⟨l, a', s', e3, h4, h5, h6⟩ := ih (out ++ [(⟨m, x1, x2, x3, x4, x5, x6, x7, x8⟩ : S26)]) (wrap64 (i + 1)) a2 s2 hs2 (by omega) (by omega) (by simp; omega) (by
        intro x hx
        rcases List.mem_append.1 hx with hx | hx
        · exact h3 x hx
        · rw [List.mem_singleton.1 hx]; exact hm)
      exact ⟨l, a', s', Ev.step (fun k => spec_l03List.l0.eq_2 ..) (ev_pos (by omega) (ev_bind0 e1 (ev_pos g (ev_pos h0 (ev_bind0 e2 (ev_pos (by omega) e3)))))), h4, h5, h6⟩
    · obtain ⟨l, a', s', e3, h4, h5, h6⟩ := ih out (wrap64 (i + 1)) a1 s1 hs1 (by omega) (by omega) (by omega) h3
      exact ⟨l, a', s', Ev.step (fun k => spec_l03List.l0.eq_2 ..) (ev_pos (by omega) (ev_bind0 e1 (ev_neg g e3))), h4, h5, h6⟩
theorem l03List_ev {c : List Int} {a s : Int} (h : Src c a s) : ∃ l a' s', Ev (fun k => spec_l03List.f k c a s) (l, a', s') ∧ Src c a' s' ∧ l.length ≤ 40 ∧ ∀ x ∈ l, x.f0.size ≤ 17 := by
  obtain ⟨l, a', s', e, h1, h2, h3⟩ := l03List_l0 ([(⟨#[97, 115, 116, 101, 114]⟩ : ByteArray), (⟨#[99, 111, 109, 101, 116]⟩ : ByteArray), (⟨#[100, 97, 104, 108, 105, 97]⟩ : ByteArray), (⟨#[112, 97, 108, 109]⟩ : ByteArray), (⟨#[112, 101, 111, 110, 121]⟩ : ByteArray), (⟨#[119, 105, 108, 108, 111, 119]⟩ : ByteArray)]) rfl (by
    intro n hn
    simp only [List.mem_cons, List.not_mem_nil, or_false] at hn
    rcases hn with rfl | rfl | rfl | rfl | rfl | rfl <;> decide) 6 [] 0 a s h (by omega) (by omega) (by simp) (by simp)
  exact ⟨l, a', s', ev_bind0 rfl e, h1, h2, h3⟩
theorem l03Counts_l0 {c : List Int} (n : Nat) (hn : n ≤ 40) : ∀ (d : Nat) (out : List Int) (i : Nat) (a s : Int), Src c a s → i + d = n → out.length = i → ∃ r a' s', Ev (fun k => spec_l03Counts.l0 k n out i c a s) (r, a', s') ∧ Src c a' s' ∧ r.length ≤ 100 := by
  intro d
  induction d with
  | zero =>
    intro out i a s h h1 h2
    obtain ⟨y, a1, s1, e1, hs1, _⟩ := l01Next_some h (n := 24) (by omega)
    by_cases g : y = 0
    · exact ⟨_, _, _, Ev.step (fun k => spec_l03Counts.l0.eq_2 ..) (ev_neg (by omega) (ev_bind0 e1 (ev_pos g (ev_pos (by omega) (Ev.now _))))), hs1, by simp; omega⟩
    by_cases g1 : y = 1
    · by_cases g2 : (n : Int) > 0
      · obtain ⟨x, a2, s2, e2, hs2, _⟩ := l01Pick_some hs1 (l := [1000, 1001, (-1)]) (by simp) (by simp)
        exact ⟨_, _, _, Ev.step (fun k => spec_l03Counts.l0.eq_2 ..) (ev_neg (by omega) (ev_bind0 e1 (ev_neg g (ev_pos g1 (ev_pos g2 (ev_bind0 e2 (ev_pos (by omega) (Ev.now _)))))))), hs2, by rw [List.length_set]; omega⟩
      · exact ⟨_, _, _, Ev.step (fun k => spec_l03Counts.l0.eq_2 ..) (ev_neg (by omega) (ev_bind0 e1 (ev_neg g (ev_pos g1 (ev_neg g2 (Ev.now _)))))), hs1, by omega⟩
    · exact ⟨_, _, _, Ev.step (fun k => spec_l03Counts.l0.eq_2 ..) (ev_neg (by omega) (ev_bind0 e1 (ev_neg g (ev_neg g1 (Ev.now _))))), hs1, by omega⟩
  | succ d ih =>
    intro out i a s h h1 h2
    obtain ⟨y, a1, s1, e1, hs1, _⟩ := l01Next_some h (n := 12) (by omega)
    obtain ⟨z, a2, s2, e2, hs2, _⟩ := l01Next_some hs1 (n := 12) (by omega)
    obtain ⟨x, a3, s3, e3, hs3, _⟩ := l01Pick_some hs2 (l := [0, y, z]) (by simp) (by simp)
    obtain ⟨r, a', s', e4, h4, h5⟩ := ih (out ++ [x]) (i + 1) a3 s3 hs3 (by omega) (by simp; omega)
    refine ⟨r, a', s', Ev.step (fun k => spec_l03Counts.l0.eq_2 ..) (ev_pos (by omega) (ev_bind0 e1 (ev_bind0 e2 (ev_bind0 e3 (ev_pos (by omega) ?_))))), h4, h5⟩
    rw [w64 (n := (i : Int) + 1) (by omega) (by omega)]
    exact e4
theorem DrawNet_ev {c : List Int} (hc : Code c) : ∃ l m, Ev (fun k => spec_DrawNetOfOrder.f k c) (l, m) ∧ l.length ≤ 40 ∧ (∀ x ∈ l, x.f0.size ≤ 17) ∧ m.length ≤ 100 := by
  obtain ⟨s, e, h⟩ := l01From_ev hc
  obtain ⟨l, a1, s1, e1, h1, hl, hz⟩ := l03List_ev h
  obtain ⟨m, a2, s2, e2, h2, hm⟩ := l03Counts_l0 l.length hl l.length [] 0 a1 s1 h1 (by omega) rfl
  have e2' : Ev (fun k => spec_l03Counts.f k c a1 s1 (l.length : Int)) (m, a2, s2) := e2
  exact ⟨l, m, e.bind (e1.bind (e2'.bind (Ev.now _))), hl, hz, hm⟩
theorem likeI_l0 (l : List Int) (hl : l.length ≤ 4611686018427387904) : ∀ (R : List Int) (i : Nat), l.drop i = R → Ev (fun k => laws_likeInts.l0 k l l i) true := by
  intro R
  induction R with
  | nil =>
    intro i h
    have := drop_nil h
    exact Ev.step (fun k => laws_likeInts.l0.eq_2 ..) (ev_neg (by omega) (Ev.now _))
  | cons c R ih =>
    intro i h
    obtain ⟨h1, h2, h3⟩ := rd_drop h
    refine Ev.step (fun k => laws_likeInts.l0.eq_2 ..) (ev_pos (by omega) (ev_pos (by omega) (ev_pos (by omega) (ev_pos rfl ?_))))
    rw [w64 (n := (i : Int) + 1) (by omega) (by omega)]
    exact ih (i + 1) h3
theorem likeI_ev (l : List Int) (hl : l.length ≤ 4611686018427387904) : Ev (fun k => laws_likeInts.f k l l) true := by
  have h := likeI_l0 l hl l 0 rfl
  exact ev_pos rfl h
theorem hasInt_l0 (l : List Int) (hl : l.length ≤ 4611686018427387904) (t : Int) : ∀ (R : List Int) (i : Nat), l.drop i = R → t ∈ R → Ev (fun k => laws_hasInt.l0 k l t i) true := by
  intro R
  induction R with
  | nil => intro i _ h; simp at h
  | cons c R ih =>
    intro i h ht
    obtain ⟨h1, h2, h3⟩ := rd_drop h
    refine Ev.step (fun k => laws_hasInt.l0.eq_2 ..) (ev_pos (by omega) (ev_pos (by omega) ?_))
    rw [h2, w64 (n := (i : Int) + 1) (by omega) (by omega)]
    by_cases g : c = t
    · exact ev_pos g (Ev.now _)
    · refine ev_neg g (ih (i + 1) h3 ?_)
      rcases List.mem_cons.1 ht with ht | ht
      · exact absurd ht.symm g
      · exact ht
theorem hasInt_ev (l : List Int) (hl : l.length ≤ 4611686018427387904) {t : Int} (h : t ∈ l) : Ev (fun k => laws_hasInt.f k l t) true := hasInt_l0 l hl t l 0 rfl h
def sumN : List S26 → List Int → Int
  | c :: R, n :: S => c.f7 * n + sumN R S
  | _, _ => 0
theorem prod_in {a n : Int} (ha : 1 ≤ a ∧ a ≤ 100000) (hn : 0 ≤ n ∧ n ≤ 1000) : 0 ≤ a * n ∧ a * n ≤ 100000000 := by
  have h0 := Int.mul_nonneg (show 0 ≤ a by omega) hn.1
  have h1 := Int.mul_le_mul_of_nonneg_right ha.2 hn.1
  omega
theorem netF_eq : ∀ (R : List S26) (S : List Int) (x : Int), (∀ c ∈ R, 1 ≤ c.f7 ∧ c.f7 ≤ 100000) → (∀ n ∈ S, 0 ≤ n ∧ n ≤ 1000) → 0 ≤ x → x + R.length * 100000000 ≤ 4611686018427387904 → netF R S x = x + sumN R S
  | [], S, x, _, _, _, _ => by cases S <;> simp [netF, sumN]
  | c :: R, [], x, _, _, _, _ => by simp [netF, sumN]
  | c :: R, n :: S, x, hc, hn, h0, h1 => by
    have p := prod_in (hc c (by simp)) (hn n (by simp))
    simp only [List.length_cons] at h1
    simp only [netF, sumN]
    rw [w64 (n := c.f7 * n) (by omega) (by omega), w64 (n := x + c.f7 * n) (by omega) (by omega), netF_eq R S (x + c.f7 * n) (fun d hd => hc d (by simp [hd])) (fun d hd => hn d (by simp [hd])) (by omega) (by omega)]
    omega
theorem sum_in : ∀ (R : List S26) (S : List Int), (∀ c ∈ R, 1 ≤ c.f7 ∧ c.f7 ≤ 100000) → (∀ n ∈ S, 0 ≤ n ∧ n ≤ 1000) → 0 ≤ sumN R S ∧ sumN R S ≤ R.length * 100000000
  | [], S, _, _ => by simp [sumN]
  | c :: R, [], _, _ => by simp only [sumN, List.length_cons]; omega
  | c :: R, n :: S, hc, hn => by
    have p := prod_in (hc c (by simp)) (hn n (by simp))
    have q := sum_in R S (fun d hd => hc d (by simp [hd])) (fun d hd => hn d (by simp [hd]))
    simp only [sumN, List.length_cons]; omega
theorem sum_zip : ∀ (R : List S26) (A B : List Int), A.length = B.length → sumN R A + sumN R B = sumN R (List.zipWith (· + ·) A B)
  | [], A, B, _ => by simp [sumN]
  | c :: R, [], [], _ => by simp [sumN]
  | c :: R, [], b :: B, h => by simp at h
  | c :: R, a :: A, [], h => by simp at h
  | c :: R, a :: A, b :: B, h => by
    have := sum_zip R A B (by simpa using h)
    simp only [sumN, List.zipWith_cons_cons, Int.mul_add]
    omega
theorem mixF_keep (t : Int) : ∀ (R : List S26) (S acc : List Int), t ∈ acc → t ∈ mixF R S acc
  | [], S, acc, h => by rw [mixF_nil]; exact h
  | c :: R, [], acc, h => h
  | c :: R, n :: S, acc, h => by
    by_cases g : n > 0
    · rw [show mixF (c :: R) (n :: S) acc = mixF R S (insU acc c.f8) from if_pos g]
      exact mixF_keep t R S _ ((insU_mem _ _ _).2 (.inl h))
    · rw [show mixF (c :: R) (n :: S) acc = mixF R S acc from if_neg g]
      exact mixF_keep t R S acc h
theorem mixF_mem : ∀ (R : List S26) (S acc : List Int) (i : Nat) (c : S26) (n : Int), R[i]? = some c → S[i]? = some n → n > 0 → c.f8 ∈ mixF R S acc
  | [], S, acc, i, c, n, h, _, _ => by simp at h
  | x :: R, [], acc, i, c, n, _, h, _ => by simp at h
  | x :: R, y :: S, acc, 0, c, n, h1, h2, h3 => by
    simp only [List.getElem?_cons_zero, Option.some.injEq] at h1 h2
    subst h1 h2
    rw [show mixF (x :: R) (y :: S) acc = mixF R S (insU acc x.f8) from if_pos h3]
    exact mixF_keep _ R S _ ((insU_mem _ _ _).2 (.inr rfl))
  | x :: R, y :: S, acc, i + 1, c, n, h1, h2, h3 => by
    simp only [List.getElem?_cons_succ] at h1 h2
    by_cases g : y > 0
    · rw [show mixF (x :: R) (y :: S) acc = mixF R S (insU acc x.f8) from if_pos g]
      exact mixF_mem R S _ i c n h1 h2 h3
    · rw [show mixF (x :: R) (y :: S) acc = mixF R S acc from if_neg g]
      exact mixF_mem R S acc i c n h1 h2 h3
theorem mixF_pw : ∀ (R : List S26) (S acc : List Int), acc.Pairwise (· < ·) → (mixF R S acc).Pairwise (· < ·)
  | [], S, acc, h => by rw [mixF_nil]; exact h
  | c :: R, [], acc, h => h
  | c :: R, n :: S, acc, h => by
    by_cases g : n > 0
    · rw [show mixF (c :: R) (n :: S) acc = mixF R S (insU acc c.f8) from if_pos g]
      exact mixF_pw R S _ (insU_pw _ _ h)
    · rw [show mixF (c :: R) (n :: S) acc = mixF R S acc from if_neg g]
      exact mixF_pw R S acc h
theorem mix_empty : ∀ (R : List S26) (S : List Int), (∀ c ∈ R, 1 ≤ c.f7 ∧ c.f7 ≤ 100000) → (∀ n ∈ S, 0 ≤ n ∧ n ≤ 1000) → (mixF R S [] = [] ↔ sumN R S = 0)
  | [], S, _, _ => by rw [mixF_nil]; simp [sumN]
  | c :: R, [], _, _ => by simp [sumN, mixF]
  | c :: R, n :: S, hc, hn => by
    have hc' : ∀ d ∈ R, 1 ≤ d.f7 ∧ d.f7 ≤ 100000 := fun d hd => hc d (by simp [hd])
    have hn' : ∀ d ∈ S, 0 ≤ d ∧ d ≤ 1000 := fun d hd => hn d (by simp [hd])
    have q := sum_in R S hc' hn'
    by_cases g : n > 0
    · have p : c.f7 * 1 ≤ c.f7 * n := Int.mul_le_mul_of_nonneg_left (by omega) (by have := hc c (by simp); omega)
      have c1 := hc c (by simp)
      rw [show mixF (c :: R) (n :: S) [] = mixF R S (insU [] c.f8) from if_pos g]
      constructor
      · intro h
        have := mixF_keep c.f8 R S (insU [] c.f8) ((insU_mem _ _ _).2 (.inr rfl))
        rw [h] at this; simp at this
      · intro h
        simp only [sumN] at h
        omega
    · have n0 := hn n (by simp)
      obtain rfl : n = 0 := by omega
      rw [show mixF (c :: R) (0 :: S) [] = mixF R S [] from if_neg g, mix_empty R S hc' hn']
      simp [sumN]
theorem pw_rd {g : List Int} (h : g.Pairwise (· < ·)) {i : Int} (h0 : 1 ≤ i) (h1 : i < g.length) : rd g (i - 1) < rd g i := by
  have hp := List.pairwise_iff_getElem.1 h (i - 1).toNat i.toNat (by omega) (by omega) (by omega)
  unfold rd
  rw [List.getD_eq_getElem?_getD, List.getD_eq_getElem?_getD, List.getElem?_eq_getElem (show (i - 1).toNat < g.length by omega), List.getElem?_eq_getElem (show i.toNat < g.length by omega)]
  exact hp
theorem law_l1 (g : List Int) (hg : g.Pairwise (· < ·)) (hl : g.length ≤ 1000) (n a b : Int) (hs : wrap64 (a + b) = n) (he : g = [] ↔ n = 0) : ∀ (d : Nat) (i : Int), 1 ≤ i → i + d = g.length + 1 → Ev (fun k => laws_FnOrders.l1 k n g a 0 b 0 i) true := by
  have fin : (((g.length : Int) == 0) == (n == 0)) = true := by
    by_cases e : g = []
    · rw [he.1 e, e]; rfl
    · have h1 : ¬ n = 0 := fun h => e (he.2 h)
      have h2 : ¬ (g.length : Int) = 0 := by
        have := List.length_pos_iff.2 e; omega
      rw [beq_eq_false_iff_ne.2 h1, beq_eq_false_iff_ne.2 h2]; rfl
  intro d
  induction d with
  | zero =>
    intro i h0 h1
    exact Ev.step (fun k => laws_FnOrders.l1.eq_2 ..) (ev_neg (by omega) (ev_pos rfl (ev_pos rfl (ev_pos hs (ev_ret fin)))))
  | succ d ih =>
    intro i h0 h1
    by_cases c : i < g.length
    · have := pw_rd hg h0 c
      refine Ev.step (fun k => laws_FnOrders.l1.eq_2 ..) (ev_pos c (ev_pos (by omega) ?_))
      rw [w64 (n := i - 1) (by omega) (by omega), w64 (n := i + 1) (by omega) (by omega)]
      exact ev_pos (by omega) (ev_pos (by omega) (ev_neg (by omega) (ih (i + 1) (by omega) (by omega))))
    · exact Ev.step (fun k => laws_FnOrders.l1.eq_2 ..) (ev_neg (by omega) (ev_pos rfl (ev_pos rfl (ev_pos hs (ev_ret fin)))))
theorem cntB_true {l : List S26} {m : List Int} (h : cntB l m = true) : m.length = l.length ∧ ∀ n ∈ m, 0 ≤ n ∧ n ≤ 1000 := by
  unfold cntB at h
  simpa only [Bool.and_eq_true, decide_eq_true_eq] using h
theorem net_ok {l : List S26} {m : List Int} (ha : areB l = true) (hm : m.length = l.length) (hn : ∀ n ∈ m, 0 ≤ n ∧ n ≤ 1000) : netM l m = (sumN l m, 0) := by
  have hc : cntB l m = true := by unfold cntB; simp [hm, hn]; exact hn
  have hl := (areB_art ha).2
  have hw : ∀ c ∈ l, 1 ≤ c.f7 ∧ c.f7 ≤ 100000 := fun c hc => (artB_true ((areB_art ha).1 c hc)).2.2.2.2.2.2.2.1
  unfold netM
  rw [if_pos ha, if_pos hc, netF_eq l m 0 hw hn (by omega) (by omega), Int.zero_add]
theorem law_l0 (l : List S26) (m g code : List Int) (ha : areB l = true) (hs : ∀ c ∈ l, c.f0.size ≤ 4611686018427387904) (hm : m.length = l.length) (hn : ∀ n ∈ m, 0 ≤ n ∧ n ≤ 1000) (hg : g = mixF l m []) :
    ∀ (S : List Int) (i : Nat) (half rest : List Int) (di dh : Int), m.drop i = S → i ≤ m.length → half.length = i → rest.length = i → (∀ n ∈ half, 0 ≤ n ∧ n ≤ 1000) → (∀ n ∈ rest, 0 ≤ n ∧ n ≤ 1000) → List.zipWith (· + ·) half rest = m.take i → Dice code di dh →
    Ev (fun k => laws_FnOrders.l0 k l m (sumN l m) g half rest i code di dh) true := by
  have hl := (areB_art ha).2
  have hw : ∀ c ∈ l, 1 ≤ c.f7 ∧ c.f7 ≤ 100000 := fun c hc => (artB_true ((areB_art ha).1 c hc)).2.2.2.2.2.2.2.1
  have hgl : g.length ≤ 12 := by have := mixF_len l m []; rw [hg]; simp at this; omega
  intro S
  induction S with
  | nil =>
    intro i half rest di dh h hi e1 e2 h1 h2 hz hd
    have := drop_nil h
    have hil : i = m.length := by omega
    rw [hil, List.take_length] at hz
    have n1 := impl_NetOfOrder_ev l half (by omega) (by omega) hs
    have n2 := impl_NetOfOrder_ev l rest (by omega) (by omega) hs
    rw [net_ok ha (by omega) h1] at n1
    rw [net_ok ha (by omega) h2] at n2
    have b1 := sum_in l half hw h1
    have b2 := sum_in l rest hw h2
    have hsum := sum_zip l half rest (by omega)
    rw [hz] at hsum
    refine Ev.step (fun k => laws_FnOrders.l0.eq_2 ..) (ev_neg (by omega) (n1.bind (n2.bind ?_)))
    exact law_l1 g (by rw [hg]; exact mixF_pw l m [] List.Pairwise.nil) (by omega) (sumN l m) _ _ (by rw [w64 (by omega) (by omega)]; exact hsum) (by rw [hg]; exact mix_empty l m hw hn) g.length 1 (by omega) (by omega)
  | cons n S ih =>
    intro i half rest di dh h hi e1 e2 h1 h2 hz hd
    obtain ⟨k1, k2, k3⟩ := rd_drop h
    obtain ⟨_, k4, _⟩ := drop_cons h
    have hnn := hn n (List.mem_of_getElem? k4)
    obtain ⟨x, di', dh', eb, hd', x0, x1⟩ := below_some hd (n := n + 1) (by omega)
    have hz' : List.zipWith (· + ·) (half ++ [x]) (rest ++ [n - x]) = m.take (i + 1) := by
      rw [List.zipWith_append (by omega), hz, List.take_add_one, k4]
      simp only [List.zipWith_cons_cons, List.zipWith_nil_left, Option.toList_some]
      rw [show x + (n - x) = n by omega]
    have nx := ih (i + 1) (half ++ [x]) (rest ++ [n - x]) di' dh' k3 (by omega) (by simp; omega) (by simp; omega)
      (fun y hy => by
        rcases List.mem_append.1 hy with hy | hy
        · exact h1 y hy
        · rw [List.mem_singleton.1 hy]; omega)
      (fun y hy => by
        rcases List.mem_append.1 hy with hy | hy
        · exact h2 y hy
        · rw [List.mem_singleton.1 hy]; omega) hz' hd'
    refine Ev.step (fun k => laws_FnOrders.l0.eq_2 ..) (ev_pos (by omega) (ev_pos (by omega) ?_))
    rw [k2, w64 (n := n + 1) (by omega) (by omega), w64 (n := (i : Int) + 1) (by omega) (by omega)]
    refine ev_bind0 eb ?_
    dsimp only
    rw [w64 (n := n - x) (by omega) (by omega)]
    refine ev_pos (by omega) (ev_bind0 rfl (ev_pos (by omega) (ev_bind0 rfl ?_)))
    by_cases c : n > 0
    · refine ev_pos c (ev_pos (by omega) ?_)
      have hi2 : i < l.length := by omega
      have hrd : rd_T26 l (i : Int) = l[i] := by
        unfold rd_T26
        rw [List.getD_eq_getElem?_getD, show ((i : Int)).toNat = i by omega, List.getElem?_eq_getElem hi2]; rfl
      have hmem : (rd_T26 l (i : Int)).f8 ∈ g := by
        rw [hg, hrd]
        exact mixF_mem l m [] i _ n (List.getElem?_eq_getElem hi2) k4 c
      exact (hasInt_ev g (by omega) hmem).bind (ev_pos rfl nx)
    · exact ev_neg c nx
theorem codes_eq (l : List S26) (m : List Int) : (mixM l m).2 = (netM l m).2 := by
  unfold mixM netM
  split
  · split <;> rfl
  · rfl
theorem main : laws_FnOrders.Pure := by
  intro code _ _ hw
  apply Ev.rounds
  unfold laws_FnOrders.f
  by_cases g : (code.length : Int) > 4096
  · exact ev_bind0 (big_true g) (ev_pos rfl (Ev.now _))
  refine ev_bind0 (big_false g) (ev_neg (by decide) ?_)
  have hc := code_of hw g
  obtain ⟨l, m, e1, hl, hz, hm⟩ := DrawNet_ev hc
  have hz' : ∀ x ∈ l, x.f0.size ≤ 4611686018427387904 := fun x hx => by have := hz x hx; omega
  have n1 := impl_NetOfOrder_ev l m (by omega) (by omega) hz'
  have n2 := spec_NetOfOrder_ev l m (by omega) (by omega) hz'
  have g1 := impl_MixedGroups_ev l m (by omega) (by omega) hz'
  have g2 := spec_MixedGroups_ev l m (by omega) (by omega) hz'
  have hlen := mixM_len l m
  have hcode := codes_eq l m
  refine e1.bind (n1.bind (n2.bind (g1.bind (g2.bind (ev_pos rfl (ev_pos rfl (ev_pos rfl ((likeI_ev (mixM l m).1 (by omega)).bind (ev_pos rfl ?_)))))))))
  refine Ev.step (fun k => laws_FnOrders.j0.eq_2 ..) (ev_neg (by rw [hcode]; simp) ?_)
  by_cases z : (netM l m).2 = 0
  · refine ev_pos z ?_
    have ha : areB l = true := by
      by_cases q : areB l = true
      · exact q
      · unfold netM at z; rw [if_neg q] at z; exact absurd z (by decide)
    have hcn : cntB l m = true := by
      by_cases q : cntB l m = true
      · exact q
      · unfold netM at z; rw [if_pos ha, if_neg q] at z; exact absurd z (by decide)
    obtain ⟨hml, hn⟩ := cntB_true hcn
    have hmix : (mixM l m).1 = mixF l m [] := by unfold mixM; rw [if_pos ha, if_pos hcn]
    obtain ⟨dh, ed, hd⟩ := roll_ev hc 301
    refine ed.bind ?_
    rw [net_ok ha hml hn]
    exact law_l0 l m (mixM l m).1 code ha hz' hml hn hmix m 0 [] [] 0 dh rfl (by omega) rfl rfl (by simp) (by simp) (by simp) hd
  · exact ev_neg z (Ev.now _)

end Go.Proofs.Ytmepklccbogibaa.PureFnOrders
namespace Go.Proofs.Ytmepklccbogibaa.Pure
theorem FnOrders : QFnOrders.laws_FnOrders.Pure := PureFnOrders.main
end Go.Proofs.Ytmepklccbogibaa.Pure
