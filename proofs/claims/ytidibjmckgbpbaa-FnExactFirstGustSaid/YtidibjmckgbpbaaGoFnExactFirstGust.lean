/- FirstGust answers what the reference's answers, for all arguments; no condition. -/
import Derived.Test.YtidibjmckgbpbaaMa
import Derived.Test.YtidibjmckgbpbaaQFnExactFirstGustx
import Derived.Test.YtidibjmckgbpbaaHandFnExactFirstGust
namespace Go.Proofs.Ytidibjmckgbpbaa.GoFnExactFirstGust
open Go.RowKit Go.Proofs.Ytidibjmckgbpbaa.QFnExactFirstGust Go.Proofs.YtidibjmckgbpbaaW.PrintWords Go.Proofs.YtidibjmckgbpbaaW.PrintLast Go.Proofs.Ytidibjmckgbpbaa.Ma Go.Proofs.Ytidibjmckgbpbaa.HandFnExactFirstGust
set_option linter.unusedVariables false
set_option linter.unusedSimpArgs false

/-! ### division, ranges -/
theorem in_eq (a b c : Int) : spec_l01In.f a b c = some (decide (b ≤ a ∧ a ≤ c)) := by
  unfold spec_l01In.f
  by_cases h : b ≤ a <;> simp [h]
theorem within_eq (a b c : Int) : impl_within.f a b c = some (decide (b ≤ a ∧ a ≤ c)) := by
  unfold impl_within.f
  by_cases h : b ≤ a <;> simp [h]
theorem tdiv_floor {a b : Int} (hb : 0 < b) : (Int.tmod a b < 0 → Int.tdiv a b - 1 = a / b) ∧ (¬ Int.tmod a b < 0 → Int.tdiv a b = a / b) := by
  have h1 := Int.tdiv_eq_ediv (a := a) (b := b)
  have h2 := Int.tmod_eq_emod (a := a) (b := b)
  have h3 := Int.emod_nonneg a (show b ≠ 0 by omega)
  have h4 := Int.emod_lt_of_pos a hb
  by_cases h : 0 ≤ a ∨ b ∣ a
  · rw [if_pos h] at h1 h2
    omega
  · rw [if_neg h] at h1 h2
    rw [Int.sign_eq_one_of_pos hb] at h1
    omega
theorem ediv_small {a b : Int} (hb : 0 < b) (h : -4611686018427387904 ≤ a) (h' : a ≤ 4611686018427387904) : -4611686018427387904 ≤ a / b ∧ a / b ≤ 4611686018427387904 := by
  have h1 : -4611686018427387904 * b ≤ a := by
    have := Int.mul_le_mul_of_nonneg_left (show 1 ≤ b by omega) (show (0 : Int) ≤ 4611686018427387904 by omega); omega
  have h2 : a < (4611686018427387904 + 1) * b := by
    have := Int.mul_le_mul_of_nonneg_left (show 1 ≤ b by omega) (show (0 : Int) ≤ 4611686018427387905 by omega); omega
  have h3 := (Int.le_ediv_iff_mul_le hb).2 h1
  have h4 := (Int.ediv_lt_iff_lt_mul hb).2 h2
  omega
/-! ### profiles -/
def layB (x : S55) : Bool := decide (1 ≤ x.f0 ∧ x.f0 ≤ 1000000) && (decide (-50000 ≤ x.f1 ∧ x.f1 ≤ 50000) && decide (x.f1 ≤ x.f2 ∧ x.f2 ≤ 50000))
def profL : Option S55 → List S55 → Bool
  | _, [] => true
  | none, x :: R => layB x && profL (some x) R
  | some q, x :: R => layB x && (decide (q.f0 < x.f0) && profL (some x) R)
def profB (m : List S55) : Bool := decide (1 ≤ m.length ∧ m.length ≤ 6) && profL none m
def prevAt (l : List S55) (i : Nat) : Option S55 := if i = 0 then none else some (rdOf z55 l ((i : Int) - 1))
theorem prev_next {l R : List S55} {i : Nat} {c : S55} (h : l.drop i = c :: R) : prevAt l (i + 1) = some c := by
  obtain ⟨h1, h2, h3⟩ := rdOf_drop (d := z55) h
  unfold prevAt
  rw [if_neg (by omega), show ((i + 1 : Nat) : Int) - 1 = (i : Int) by omega, h2]
theorem spec_IsProfile_l0 (l : List S55) (hl : l.length ≤ 4611686018427387904) : ∀ (R : List S55) (i : Nat), l.drop i = R → Ev (fun k => spec_IsProfile.l0 k l i) (profL (prevAt l i) R && decide (1 ≤ l.length ∧ l.length ≤ 6)) := by
  intro R
  induction R with
  | nil =>
    intro i h
    have := drop_nil h
    refine Ev.step (fun k => spec_IsProfile.l0.eq_2 ..) (ev_neg (by omega) (ev_bind0 (in_eq ..) (ev_ret ?_)))
    have e : profL (prevAt l i) [] = true := by unfold profL; rfl
    rw [e, Bool.true_and]
    exact decide_eq_decide.2 (by omega)
  | cons c R ih =>
    intro i h
    obtain ⟨h1, h2, h3⟩ := rdOf_drop (d := z55) h
    have h2' : rd_T55 l (i : Int) = c := h2
    refine Ev.step (fun k => spec_IsProfile.l0.eq_2 ..) (ev_pos (by omega) (ev_pos (by omega) ?_))
    rw [h2', w64 (n := (i : Int) + 1) (by omega) (by omega)]
    have hn := ih (i + 1) h3
    rw [prev_next h] at hn
    refine ev_bind0 (in_eq ..) ?_
    by_cases a : 1 ≤ c.f0 ∧ c.f0 ≤ 1000000
    · refine ev_pos (by simpa using a) (ev_bind0 (in_eq ..) ?_)
      by_cases b : -50000 ≤ c.f1 ∧ c.f1 ≤ 50000
      · refine ev_pos (by simpa using b) (ev_bind0 (in_eq ..) ?_)
        by_cases d : c.f1 ≤ c.f2 ∧ c.f2 ≤ 50000
        · refine ev_pos (by simpa using d) ?_
          have hc : layB c = true := by unfold layB; simp [a, b, d]
          by_cases g : (i : Int) > 0
          · refine ev_pos g ?_
            rw [w64 (n := (i : Int) - 1) (by omega) (by omega)]
            refine ev_pos (by omega) (ev_pos (by omega) ?_)
            have hp : prevAt l i = some (rdOf z55 l ((i : Int) - 1)) := by unfold prevAt; rw [if_neg (by omega)]
            rw [hp]
            by_cases u : (rd_T55 l ((i : Int) - 1)).f0 ≥ c.f0
            · refine ev_pos u (ev_ret ?_)
              have u' : ¬ (rdOf z55 l ((i : Int) - 1)).f0 < c.f0 := by
                have : rd_T55 l ((i : Int) - 1) = rdOf z55 l ((i : Int) - 1) := rfl
                rw [← this]; omega
              simp [profL, u']
            · refine ev_neg u ?_
              have u' : (rdOf z55 l ((i : Int) - 1)).f0 < c.f0 := by
                have : rd_T55 l ((i : Int) - 1) = rdOf z55 l ((i : Int) - 1) := rfl
                rw [← this]; omega
              have e : profL (some (rdOf z55 l ((i : Int) - 1))) (c :: R) = profL (some c) R := by simp [profL, hc, u']
              rw [e]; exact hn
          · refine ev_neg g ?_
            have hp : prevAt l i = none := by unfold prevAt; rw [if_pos (by omega)]
            have e : profL none (c :: R) = profL (some c) R := by simp [profL, hc]
            rw [hp, e]; exact hn
        · refine ev_neg (by simpa using d) (ev_ret ?_)
          have hc : layB c = false := by unfold layB; simp [d]
          cases prevAt l i <;> simp [profL, hc]
      · refine ev_neg (by simpa using b) (ev_ret ?_)
        have hc : layB c = false := by unfold layB; simp [b]
        cases prevAt l i <;> simp [profL, hc]
    · refine ev_neg (by simpa using a) (ev_ret ?_)
      have hc : layB c = false := by unfold layB; simp [a]
      cases prevAt l i <;> simp [profL, hc]
theorem spec_IsProfile_ev (l : List S55) (hl : l.length ≤ 4611686018427387904) : Ev (fun k => spec_IsProfile.f k l) (profB l) := by
  have h := spec_IsProfile_l0 l hl l 0 rfl
  have e : profB l = (profL (prevAt l 0) l && decide (1 ≤ l.length ∧ l.length ≤ 6)) := by unfold profB prevAt; rw [if_pos rfl, Bool.and_comm]
  rw [e]; exact h
theorem isSide_eq (n : Int) : impl_isSide.f n = some (decide (-50000 ≤ n ∧ n ≤ 50000)) := by unfold impl_isSide.f; rw [within_eq]; rfl
theorem areWinds_eq (a b : Int) : impl_areWinds.f a b = some (decide (-50000 ≤ a ∧ a ≤ 50000) && decide (a ≤ b ∧ b ≤ 50000)) := by
  unfold impl_areWinds.f
  rw [isSide_eq, isSide_eq]
  simp only [Option.bind_some]
  by_cases h : -50000 ≤ a ∧ a ≤ 50000
  · rw [if_pos (by simpa using h)]
    by_cases g : -50000 ≤ b ∧ b ≤ 50000
    · rw [if_pos (by simpa using g)]
      simp [h]; omega
    · rw [if_neg (by simpa using g)]
      simp [h]; omega
  · rw [if_neg (by simpa using h)]
    simp [h]
theorem impl_IsProfile_l0 (l : List S55) (hl : l.length ≤ 4611686018427387904) : ∀ (R : List S55) (i : Nat), l.drop i = R → Ev (fun k => impl_IsProfile.l0 k l l (l.length : Int) i) (profL (prevAt l i) R) := by
  intro R
  induction R with
  | nil =>
    intro i h
    have := drop_nil h
    refine Ev.step (fun k => impl_IsProfile.l0.eq_2 ..) (ev_neg (by omega) (ev_ret ?_))
    unfold profL; rfl
  | cons c R ih =>
    intro i h
    obtain ⟨h1, h2, h3⟩ := rdOf_drop (d := z55) h
    have h2' : rd_T55 l (i : Int) = c := h2
    refine Ev.step (fun k => impl_IsProfile.l0.eq_2 ..) (ev_pos (by omega) (ev_pos (by omega) (ev_pos (by omega) ?_)))
    rw [h2', w64 (n := (i : Int) + 1) (by omega) (by omega)]
    have hn := ih (i + 1) h3
    rw [prev_next h] at hn
    refine ev_bind0 (within_eq ..) ?_
    by_cases a : 1 ≤ c.f0 ∧ c.f0 ≤ 1000000
    · refine ev_pos (by simpa using a) (ev_bind0 (areWinds_eq ..) ?_)
      by_cases b : (decide (-50000 ≤ c.f1 ∧ c.f1 ≤ 50000) && decide (c.f1 ≤ c.f2 ∧ c.f2 ≤ 50000)) = true
      · refine ev_pos b ?_
        have hc : layB c = true := by unfold layB; rw [b]; simp [a]
        by_cases g : (i : Int) > 0
        · refine ev_pos g ?_
          rw [w64 (n := (i : Int) - 1) (by omega) (by omega)]
          refine ev_pos (by omega) (ev_pos (by omega) ?_)
          have hp : prevAt l i = some (rdOf z55 l ((i : Int) - 1)) := by unfold prevAt; rw [if_neg (by omega)]
          rw [hp]
          by_cases u : (rd_T55 l ((i : Int) - 1)).f0 ≥ c.f0
          · refine ev_pos u (ev_ret ?_)
            have u' : ¬ (rdOf z55 l ((i : Int) - 1)).f0 < c.f0 := by
              have : rd_T55 l ((i : Int) - 1) = rdOf z55 l ((i : Int) - 1) := rfl
              rw [← this]; omega
            simp [profL, u']
          · refine ev_neg u ?_
            have u' : (rdOf z55 l ((i : Int) - 1)).f0 < c.f0 := by
              have : rd_T55 l ((i : Int) - 1) = rdOf z55 l ((i : Int) - 1) := rfl
              rw [← this]; omega
            have e : profL (some (rdOf z55 l ((i : Int) - 1))) (c :: R) = profL (some c) R := by simp [profL, hc, u']
            rw [e]; exact hn
        · refine ev_neg g ?_
          have hp : prevAt l i = none := by unfold prevAt; rw [if_pos (by omega)]
          have e : profL none (c :: R) = profL (some c) R := by simp [profL, hc]
          rw [hp, e]; exact hn
      · refine ev_neg b (ev_ret ?_)
        have hc : layB c = false := by unfold layB; simp only [Bool.not_eq_true] at b; rw [b]; simp
        cases prevAt l i <;> simp [profL, hc]
    · refine ev_neg (by simpa using a) (ev_ret ?_)
      have hc : layB c = false := by unfold layB; simp [a]
      cases prevAt l i <;> simp [profL, hc]
theorem impl_IsProfile_ev (l : List S55) (hl : l.length ≤ 4611686018427387904) : Ev (fun k => impl_IsProfile.f k l) (profB l) := by
  have h := impl_IsProfile_l0 l hl l 0 rfl
  have e0 : prevAt l 0 = none := by unfold prevAt; rw [if_pos rfl]
  rw [e0] at h
  unfold impl_IsProfile.f profB
  by_cases a : (l.length : Int) < 1
  · refine ev_pos a (Ev.step (fun k => impl_IsProfile.j0.eq_2 ..) (ev_pos rfl (ev_ret ?_)))
    simp; omega
  · refine ev_neg a (Ev.step (fun k => impl_IsProfile.j0.eq_2 ..) ?_)
    by_cases b : (l.length : Int) > 6
    · refine ev_pos (by simpa using b) (ev_ret ?_)
      simp; omega
    · refine ev_neg (by simpa using b) ?_
      have e : (decide (1 ≤ l.length ∧ l.length ≤ 6) && profL none l) = profL none l := by
        simp; intro _; omega
      rw [e]; exact h

/-! ### the first gust -/
def findF (h : Int) : List S55 → Nat → Int
  | [], _ => -1
  | c :: R, i => if h ≤ c.f0 then (i : Int) else findF h R (i + 1)
def findM (l : List S55) (h : Int) : Int := findF h l 0
theorem findF_lt (h : Int) : ∀ (R : List S55) (i : Nat), findF h R i < (i + R.length : Nat) ∧ -1 ≤ findF h R i
  | [], i => by unfold findF; constructor <;> omega
  | c :: R, i => by
    unfold findF
    have := findF_lt h R (i + 1)
    simp only [List.length_cons]
    split
    · omega
    · omega
theorem findM_lt (l : List S55) (h : Int) : findM l h < (l.length : Int) := by have := (findF_lt h l 0).1; unfold findM; omega
theorem impl_layerOf_l0 (l : List S55) (hl : l.length ≤ 4611686018427387904) (h : Int) : ∀ (R : List S55) (i : Nat), l.drop i = R → Ev (fun k => impl_layerOf.l0 k h l (l.length : Int) i) (findF h R i) := by
  intro R
  induction R with
  | nil =>
    intro i e
    have := drop_nil e
    exact Ev.step (fun k => impl_layerOf.l0.eq_2 ..) (ev_neg (by omega) (Ev.now _))
  | cons c R ih =>
    intro i e
    obtain ⟨h1, h2, h3⟩ := rdOf_drop (d := z55) e
    have h2' : rd_T55 l (i : Int) = c := h2
    refine Ev.step (fun k => impl_layerOf.l0.eq_2 ..) (ev_pos (by omega) (ev_pos (by omega) (ev_pos (by omega) ?_)))
    rw [h2', w64 (n := (i : Int) + 1) (by omega) (by omega)]
    unfold findF
    by_cases g : h ≤ c.f0
    · exact ev_pos g (ev_ret (by rw [if_pos g]))
    · rw [if_neg g]; exact ev_neg g (ih (i + 1) h3)
theorem impl_layerOf_ev (l : List S55) (hl : l.length ≤ 4611686018427387904) (h : Int) : Ev (fun k => impl_layerOf.f k l h) (findM l h) := impl_layerOf_l0 l hl h l 0 rfl
theorem spec_l05Find_l0 (l : List S55) (hl : l.length ≤ 4611686018427387904) (h : Int) : ∀ (R : List S55) (i : Nat), l.drop i = R → Ev (fun k => spec_l05Find.l0 k l h i) (findF h R i) := by
  intro R
  induction R with
  | nil =>
    intro i e
    have := drop_nil e
    exact Ev.step (fun k => spec_l05Find.l0.eq_2 ..) (ev_neg (by omega) (Ev.now _))
  | cons c R ih =>
    intro i e
    obtain ⟨h1, h2, h3⟩ := rdOf_drop (d := z55) e
    have h2' : rd_T55 l (i : Int) = c := h2
    refine Ev.step (fun k => spec_l05Find.l0.eq_2 ..) (ev_pos (by omega) (ev_pos (by omega) ?_))
    rw [h2', w64 (n := (i : Int) + 1) (by omega) (by omega)]
    unfold findF
    by_cases g : h ≤ c.f0
    · exact ev_pos g (ev_ret (by rw [if_pos g]))
    · rw [if_neg g]; exact ev_neg (by omega) (ih (i + 1) h3)
theorem spec_l05Find_ev (l : List S55) (hl : l.length ≤ 4611686018427387904) (h : Int) : Ev (fun k => spec_l05Find.f k l h) (findM l h) := spec_l05Find_l0 l hl h l 0 rfl
theorem impl_allWithin_l0 (l : List Int) (hl : l.length ≤ 4611686018427387904) (a b : Int) : ∀ (R : List Int) (i : Nat), l.drop i = R → Ev (fun k => impl_allWithin.l0 k a b l (l.length : Int) i) (decide (∀ n ∈ R, a ≤ n ∧ n ≤ b)) := by
  intro R
  induction R with
  | nil =>
    intro i h
    have := drop_nil h
    exact Ev.step (fun k => impl_allWithin.l0.eq_2 ..) (ev_neg (by omega) (ev_ret (by simp)))
  | cons n R ih =>
    intro i h
    obtain ⟨h1, h2, h3⟩ := rd_drop h
    refine Ev.step (fun k => impl_allWithin.l0.eq_2 ..) (ev_pos (by omega) (ev_pos (by omega) (ev_pos (by omega) ?_)))
    rw [h2, w64 (n := (i : Int) + 1) (by omega) (by omega)]
    refine ev_bind0 (within_eq ..) ?_
    by_cases g : a ≤ n ∧ n ≤ b
    · refine ev_pos (by simpa using g) ?_
      have e : (∀ m ∈ n :: R, a ≤ m ∧ m ≤ b) ↔ ∀ m ∈ R, a ≤ m ∧ m ≤ b := by simp [g]
      rw [decide_eq_decide.2 e]
      exact ih (i + 1) h3
    · exact ev_neg (by simpa using g) (ev_ret (by symm; exact decide_eq_false (fun h => g (h n (by simp)))))
theorem impl_allWithin_ev (l : List Int) (hl : l.length ≤ 4611686018427387904) (a b : Int) : Ev (fun k => impl_allWithin.f k l a b) (decide (∀ n ∈ l, a ≤ n ∧ n ≤ b)) := impl_allWithin_l0 l hl a b l 0 rfl
theorem gust_loop (m : List S55) (x1 x2 : List Int) (hm : m.length ≤ 1000000000) (h1 : x1.length ≤ 1000000000) (he : x1.length = x2.length) : ∀ (R : List Int) (i : Nat), x1.drop i = R →
    ∃ r, Ev (fun k => spec_FirstGust.l1 k m x1 x2 i) r ∧ Ev (fun k => impl_FirstGust.l0 k m x2 x1 (x1.length : Int) i) r := by
  intro R
  induction R with
  | nil =>
    intro i h
    have := drop_nil h
    exact ⟨_, Ev.step (fun k => spec_FirstGust.l1.eq_2 ..) (ev_neg (by omega) (Ev.now _)), Ev.step (fun k => impl_FirstGust.l0.eq_2 ..) (ev_neg (by omega) (Ev.now _))⟩
  | cons c R ih =>
    intro i h
    obtain ⟨g1, g2, g3⟩ := rd_drop h
    have hs := spec_l05Find_ev m (by omega) c
    have hi := impl_layerOf_ev m (by omega) c
    have hlt := findM_lt m c
    obtain ⟨r, e1, e2⟩ := ih (i + 1) g3
    by_cases a : findM m c < 0
    · refine ⟨(0, 4), Ev.step (fun k => spec_FirstGust.l1.eq_2 ..) (ev_pos (by omega) (ev_pos (by omega) ?_)), Ev.step (fun k => impl_FirstGust.l0.eq_2 ..) (ev_pos (by omega) (ev_pos (by omega) (ev_pos (by omega) ?_)))⟩
      · rw [g2]; exact hs.bind (ev_pos a (Ev.now _))
      · rw [g2]; exact hi.bind (ev_pos a (Ev.now _))
    · by_cases b : (rd_T55 m (findM m c)).f1 ≤ rd x2 (i : Int) ∧ rd x2 (i : Int) ≤ (rd_T55 m (findM m c)).f2
      · refine ⟨r, Ev.step (fun k => spec_FirstGust.l1.eq_2 ..) (ev_pos (by omega) (ev_pos (by omega) ?_)), Ev.step (fun k => impl_FirstGust.l0.eq_2 ..) (ev_pos (by omega) (ev_pos (by omega) (ev_pos (by omega) ?_)))⟩
        · rw [g2, w64 (n := (i : Int) + 1) (by omega) (by omega)]
          exact hs.bind (ev_neg a (ev_pos (by omega) (ev_pos (by omega) (ev_pos (by omega) (ev_bind0 (in_eq ..) (ev_pos (by simpa using b) e1))))))
        · rw [g2, w64 (n := (i : Int) + 1) (by omega) (by omega)]
          exact hi.bind (ev_neg a (ev_pos (by omega) (ev_pos (by omega) (ev_pos (by omega) (ev_bind0 (within_eq ..) (ev_pos (by simpa using b) e2))))))
      · refine ⟨((i : Int), 0), Ev.step (fun k => spec_FirstGust.l1.eq_2 ..) (ev_pos (by omega) (ev_pos (by omega) ?_)), Ev.step (fun k => impl_FirstGust.l0.eq_2 ..) (ev_pos (by omega) (ev_pos (by omega) (ev_pos (by omega) ?_)))⟩
        · rw [g2]
          exact hs.bind (ev_neg a (ev_pos (by omega) (ev_pos (by omega) (ev_pos (by omega) (ev_bind0 (in_eq ..) (ev_neg (by simpa using b) (Ev.now _)))))))
        · rw [g2]
          exact hi.bind (ev_neg a (ev_pos (by omega) (ev_pos (by omega) (ev_pos (by omega) (ev_bind0 (within_eq ..) (ev_neg (by simpa using b) (Ev.now _)))))))
theorem gust_check (m : List S55) (x1 x2 : List Int) (h1 : x1.length ≤ 1000000000) (he : x1.length = x2.length) {r : Int × Int} (hr : Ev (fun k => spec_FirstGust.l1 k m x1 x2 0) r) : ∀ (R S : List Int) (i : Nat), x1.drop i = R → x2.drop i = S →
    Ev (fun k => spec_FirstGust.l0 k m x1 x2 i) (if (∀ n ∈ R, 0 ≤ n ∧ n ≤ 1000000) ∧ (∀ n ∈ S, -50000 ≤ n ∧ n ≤ 50000) then r else (0, 2)) := by
  intro R
  induction R with
  | nil =>
    intro S i h k
    have h2 := drop_nil h
    have : S = [] := by rw [← k]; exact List.drop_eq_nil_of_le (by omega)
    subst this
    rw [if_pos (by simp)]
    exact Ev.step (fun k => spec_FirstGust.l0.eq_2 ..) (ev_neg (by omega) hr)
  | cons c R ih =>
    intro S i h k
    obtain ⟨g1, g2, g3⟩ := rd_drop h
    cases S with
    | nil => have := drop_nil k; omega
    | cons d S =>
      obtain ⟨k1, k2, k3⟩ := rd_drop k
      have e := ih S (i + 1) g3 k3
      refine Ev.step (fun k => spec_FirstGust.l0.eq_2 ..) (ev_pos (by omega) (ev_pos (by omega) ?_))
      rw [g2, k2, w64 (n := (i : Int) + 1) (by omega) (by omega)]
      refine ev_bind0 (in_eq ..) ?_
      by_cases a : 0 ≤ c ∧ c ≤ 1000000
      · refine ev_pos (by simpa using a) (ev_pos (by omega) (ev_bind0 (in_eq ..) ?_))
        by_cases b : -50000 ≤ d ∧ d ≤ 50000
        · refine ev_pos (by simpa using b) ?_
          have q : ((∀ n ∈ c :: R, 0 ≤ n ∧ n ≤ 1000000) ∧ (∀ n ∈ d :: S, -50000 ≤ n ∧ n ≤ 50000)) ↔ ((∀ n ∈ R, 0 ≤ n ∧ n ≤ 1000000) ∧ (∀ n ∈ S, -50000 ≤ n ∧ n ≤ 50000)) := by simp [a, b]
          simp only [q]
          exact e
        · refine ev_neg (by simpa using b) (ev_ret ?_)
          rw [if_neg (fun h => b (h.2 d (by simp)))]
      · refine ev_neg (by simpa using a) (ev_ret ?_)
        rw [if_neg (fun h => a (h.1 c (by simp)))]
theorem FirstGust_both (m : List S55) (x1 x2 : List Int) (hm : m.length ≤ 1000000000) (h1 : x1.length ≤ 1000000000) (h2 : x2.length ≤ 1000000000) :
    ∃ r, Ev (fun k => impl_FirstGust.f k m x1 x2) r ∧ Ev (fun k => spec_FirstGust.f k m x1 x2) r := by
  have hp := spec_IsProfile_ev m (by omega)
  have hq := impl_IsProfile_ev m (by omega)
  by_cases a : profB m = true
  · by_cases he : x1.length = x2.length
    · obtain ⟨r, e1, e2⟩ := gust_loop m x1 x2 hm h1 he x1 0 rfl
      have ec := gust_check m x1 x2 h1 he e1 x1 x2 0 rfl rfl
      refine ⟨_, ?_, hp.bind (ev_pos a (ev_pos (by omega) ec))⟩
      refine hq.bind (ev_pos a (ev_pos (by omega) ((impl_allWithin_ev x1 (by omega) 0 1000000).bind ?_)))
      by_cases b : ∀ n ∈ x1, 0 ≤ n ∧ n ≤ 1000000
      · refine ev_pos (by simpa using b) ((impl_allWithin_ev x2 (by omega) (-50000) 50000).bind (Ev.step (fun k => impl_FirstGust.j0.eq_2 ..) ?_))
        by_cases d : ∀ n ∈ x2, -50000 ≤ n ∧ n ≤ 50000
        · rw [if_pos ⟨b, d⟩]
          exact ev_neg (by rw [decide_eq_true d]; decide) e2
        · refine ev_pos (by rw [decide_eq_false d]; rfl) (ev_ret (by rw [if_neg (fun h => d h.2)]))
      · exact ev_neg (by simpa using b) (Ev.step (fun k => impl_FirstGust.j0.eq_2 ..) (ev_pos rfl (ev_ret (by rw [if_neg (fun h => b h.1)]))))
    · exact ⟨(0, 2), hq.bind (ev_pos a (ev_neg (by omega) (Ev.step (fun k => impl_FirstGust.j0.eq_2 ..) (ev_pos rfl (Ev.now _))))), hp.bind (ev_pos a (ev_neg (by omega) (Ev.now _)))⟩
  · exact ⟨(0, 1), hq.bind (ev_neg a (Ev.now _)), hp.bind (ev_neg a (Ev.now _))⟩

/-! ### slices laid out with room behind -/
theorem room_some (n : Nat) (h : n ≤ 1000000000) : ∃ t, laws_roomBehind.f (n : Int) = some t ∧ 0 ≤ t ∧ t ≤ 1000000000 := by
  unfold laws_roomBehind.f
  split
  · exact ⟨_, rfl, by omega, by omega⟩
  · split
    · exact ⟨_, rfl, by omega, by omega⟩
    · exact ⟨_, rfl, by omega, by omega⟩
theorem take_set_ge {α : Type} (x : List α) (n j : Nat) (v : α) (h : n ≤ j) : (x.set j v).take n = x.take n := by
  rw [List.take_set, List.set_eq_of_length_le (by rw [List.length_take]; omega)]
theorem take_set_next {α : Type} (x l : List α) (i : Nat) (c : α) (hi : i < x.length) (hc : l[i]? = some c) (h : x.take i = l.take i) : (x.set i c).take (i + 1) = l.take (i + 1) := by
  obtain ⟨y, hy⟩ : ∃ y, x[i]? = some y := ⟨x[i], List.getElem?_eq_getElem hi⟩
  have hl : (x.set i c)[i]? = some c := by rw [List.getElem?_set_self hi]
  rw [List.take_add_one, List.take_add_one, hl, hc, take_set_ge _ _ _ _ (Nat.le_refl i), h]

/-! ### layers -/
def cvL (x : S64) : S55 := ⟨x.f0, x.f1, x.f2⟩
theorem rd64 {l : List S64} {i : Nat} {c : S64} (h : rdOf z64 l (i : Int) = c) : (⟨(rd_T64 l i).f0, (rd_T64 l i).f1, (rd_T64 l i).f2⟩ : S55) = cvL c := by rw [← h]; rfl
theorem eqLayerS_l0 (l : List S55) (hl : l.length ≤ 4611686018427387904) : ∀ (R : List S55) (i : Nat), l.drop i = R → Ev (fun k => laws_eqLayerS.l0 k l l i) true := by
  intro R
  induction R with
  | nil =>
    intro i h
    have := drop_nil h
    exact Ev.step (fun k => laws_eqLayerS.l0.eq_2 ..) (ev_neg (by omega) (Ev.now _))
  | cons c R ih =>
    intro i h
    obtain ⟨h1, h2, h3⟩ := rdOf_drop (d := z55) h
    refine Ev.step (fun k => laws_eqLayerS.l0.eq_2 ..) (ev_pos (by omega) (ev_pos (by omega) (ev_pos (by omega) (ev_bind0 (b := true) (by unfold laws_eqLayer.f; simp) (ev_pos rfl ?_)))))
    rw [w64 (n := (i : Int) + 1) (by omega) (by omega)]
    exact ih (i + 1) h3
theorem eqLayerS_ev (l : List S55) (hl : l.length ≤ 4611686018427387904) : Ev (fun k => laws_eqLayerS.f k l l) true := by
  have h := eqLayerS_l0 l hl l 0 rfl
  exact ev_pos rfl h
theorem toLayerSF_l1 (l : List S64) (hl : l.length ≤ 1000000000) : ∀ (d : Nat) (x : List S55) (j : Nat), x.length - j = d → x.length ≤ 3000000000 → l.length ≤ j → j ≤ x.length → x.take l.length = l.map cvL →
    ∃ L, Ev (fun k => laws_toLayerSF.l1 k l x (j : Int)) L ∧ L.length = x.length ∧ L.take l.length = l.map cvL := by
  intro d
  induction d with
  | zero =>
    intro x j hd hx hj hjx ht
    exact ⟨x, Ev.step (fun k => laws_toLayerSF.l1.eq_2 ..) (ev_neg (by omega) (ev_pos (by omega) (ev_pos (by omega) (Ev.now _)))), rfl, ht⟩
  | succ d ih =>
    intro x j hd hx hj hjx ht
    obtain ⟨L, e, h1, h2⟩ := ih (x.set j (⟨(-7000000000000000101), (-7000000000000000101), (-7000000000000000101)⟩ : S55)) (j + 1) (by rw [List.length_set]; omega) (by rw [List.length_set]; omega) (by omega) (by rw [List.length_set]; omega) (by rw [take_set_ge _ _ _ _ hj, ht])
    refine ⟨L, Ev.step (fun k => laws_toLayerSF.l1.eq_2 ..) (ev_pos (by omega) (ev_bind0 rfl (ev_pos (by omega) ?_))), by rw [h1, List.length_set], h2⟩
    dsimp only
    rw [Int.toNat_natCast, w64 (n := (j : Int) + 1) (by omega) (by omega)]
    exact e
theorem toLayerSF_l0 (l : List S64) (hl : l.length ≤ 1000000000) : ∀ (R : List S64) (i : Nat) (x : List S55), l.drop i = R → i ≤ l.length → l.length ≤ x.length → x.length ≤ 3000000000 → x.take i = (l.map cvL).take i →
    ∃ L, Ev (fun k => laws_toLayerSF.l0 k l x (i : Int)) L ∧ L.length = x.length ∧ L.take l.length = l.map cvL := by
  intro R
  induction R with
  | nil =>
    intro i x h hi hx hx' ht
    have h1 := drop_nil h
    obtain ⟨L, e, h2⟩ := toLayerSF_l1 l hl (x.length - l.length) x l.length rfl hx' (Nat.le_refl _) hx (by rw [show l.length = i by omega, ht, List.take_of_length_le (by rw [List.length_map]; exact h1)])
    exact ⟨L, Ev.step (fun k => laws_toLayerSF.l0.eq_2 ..) (ev_neg (by omega) e), h2⟩
  | cons c R ih =>
    intro i x h hi hx hx' ht
    obtain ⟨h1, h2, h3⟩ := rdOf_drop (d := z64) h
    obtain ⟨_, hc, _⟩ := drop_cons h
    obtain ⟨L, e, h4, h5⟩ := ih (i + 1) (x.set i (cvL c)) h3 (by omega) (by rw [List.length_set]; omega) (by rw [List.length_set]; omega) (take_set_next x (l.map cvL) i (cvL c) (by omega) (by rw [List.getElem?_map, hc]; rfl) ht)
    refine ⟨L, Ev.step (fun k => laws_toLayerSF.l0.eq_2 ..) (ev_pos (by omega) (ev_pos (by omega) (ev_bind0 rfl (ev_pos (by omega) ?_)))), by rw [h4, List.length_set], h5⟩
    dsimp only
    rw [rd64 h2, Int.toNat_natCast, w64 (n := (i : Int) + 1) (by omega) (by omega)]
    exact e
theorem toLayerSF_ev (l : List S64) (hl : l.length ≤ 1000000000) {t : Int} (ht : laws_roomBehind.f (l.length : Int) = some t) (t0 : 0 ≤ t) (t1 : t ≤ 1000000000) : ∃ L, Ev (fun k => laws_toLayerSF.f k l false) L ∧ (L.length : Int) = l.length + t ∧ L.take l.length = l.map cvL := by
  obtain ⟨L, e, h1, h2⟩ := toLayerSF_l0 l hl l 0 (List.replicate ((l.length : Int) + t).toNat z55) rfl (by omega) (by rw [List.length_replicate]; omega) (by rw [List.length_replicate]; omega) (by simp)
  rw [List.length_replicate] at h1
  refine ⟨L, ?_, by omega, h2⟩
  refine ev_neg (by decide) (Ev.step (fun k => laws_toLayerSF.j0.eq_2 ..) (ev_neg (by decide) (ev_bind0 ht ?_)))
  rw [w64 (n := (l.length : Int) + t) (by omega) (by omega)]
  exact ev_pos (by omega) (ev_pos (by omega) e)
/-! #### the same, its room forgotten -/
theorem toLayerS_l1 (l : List S64) (hl : l.length ≤ 1000000000) : ∀ (d : Nat) (x : List S55) (j : Nat), x.length - j = d → x.length ≤ 3000000000 → l.length ≤ j → j ≤ x.length → x.take l.length = l.map cvL →
    Ev (fun k => laws_toLayerS.l1 k l x (j : Int)) (l.map cvL) := by
  intro d
  induction d with
  | zero =>
    intro x j hd hx hj hjx ht
    exact Ev.step (fun k => laws_toLayerS.l1.eq_2 ..) (ev_neg (by omega) (ev_pos (by omega) (ev_pos (by omega) (ev_ret (by rw [Int.toNat_natCast, ht])))))
  | succ d ih =>
    intro x j hd hx hj hjx ht
    have e := ih (x.set j (⟨(-7000000000000000101), (-7000000000000000101), (-7000000000000000101)⟩ : S55)) (j + 1) (by rw [List.length_set]; omega) (by rw [List.length_set]; omega) (by omega) (by rw [List.length_set]; omega) (by rw [take_set_ge _ _ _ _ hj, ht])
    refine Ev.step (fun k => laws_toLayerS.l1.eq_2 ..) (ev_pos (by omega) (ev_bind0 rfl (ev_pos (by omega) ?_)))
    dsimp only
    rw [Int.toNat_natCast, w64 (n := (j : Int) + 1) (by omega) (by omega)]
    exact e
theorem toLayerS_l0 (l : List S64) (hl : l.length ≤ 1000000000) : ∀ (R : List S64) (i : Nat) (x : List S55), l.drop i = R → i ≤ l.length → l.length ≤ x.length → x.length ≤ 3000000000 → x.take i = (l.map cvL).take i →
    Ev (fun k => laws_toLayerS.l0 k l x (i : Int)) (l.map cvL) := by
  intro R
  induction R with
  | nil =>
    intro i x h hi hx hx' ht
    have h1 := drop_nil h
    have e := toLayerS_l1 l hl (x.length - l.length) x l.length rfl hx' (Nat.le_refl _) hx (by rw [show l.length = i by omega, ht, List.take_of_length_le (by rw [List.length_map]; exact h1)])
    exact Ev.step (fun k => laws_toLayerS.l0.eq_2 ..) (ev_neg (by omega) e)
  | cons c R ih =>
    intro i x h hi hx hx' ht
    obtain ⟨h1, h2, h3⟩ := rdOf_drop (d := z64) h
    obtain ⟨_, hc, _⟩ := drop_cons h
    have e := ih (i + 1) (x.set i (cvL c)) h3 (by omega) (by rw [List.length_set]; omega) (by rw [List.length_set]; omega) (take_set_next x (l.map cvL) i (cvL c) (by omega) (by rw [List.getElem?_map, hc]; rfl) ht)
    refine Ev.step (fun k => laws_toLayerS.l0.eq_2 ..) (ev_pos (by omega) (ev_pos (by omega) (ev_bind0 rfl (ev_pos (by omega) ?_))))
    dsimp only
    rw [rd64 h2, Int.toNat_natCast, w64 (n := (i : Int) + 1) (by omega) (by omega)]
    exact e
theorem toLayerS_bare (l : List S64) (hl : l.length ≤ 1000000000) : Ev (fun k => laws_toLayerS.f k l true) (l.map cvL) := by
  refine ev_pos rfl (Ev.step (fun k => laws_toLayerS.j0.eq_2 ..) ?_)
  by_cases a : l.length = 0
  · exact ev_pos (by simp [a]) (ev_ret (by rw [List.length_eq_zero_iff.1 a]; rfl))
  · obtain ⟨t, et, t0, t1⟩ := room_some l.length hl
    refine ev_neg (by simp; intro h; simp [h] at a) (ev_bind0 et ?_)
    rw [w64 (n := (l.length : Int) + t) (by omega) (by omega)]
    refine ev_pos (by omega) (ev_pos (by omega) ?_)
    exact toLayerS_l0 l hl l 0 (List.replicate ((l.length : Int) + t).toNat z55) rfl (by omega) (by rw [List.length_replicate]; omega) (by rw [List.length_replicate]; omega) (by simp)

/-! ### lists marked and held -/
theorem set_mid {α : Type} (P R : List α) (c m : α) : (P ++ c :: R).set P.length m = P ++ m :: R := by
  rw [List.set_append_right _ _ (by omega)]; simp
theorem drop_mid {α : Type} (P R : List α) : (P ++ R).drop P.length = R := by simp
def mkI (m : Int) : Nat → List Int
  | 0 => []
  | n + 1 => m :: mkI (m + 1) n
theorem mkI_len : ∀ (n : Nat) (m : Int), (mkI m n).length = n
  | 0, _ => rfl
  | n + 1, m => by simp [mkI, mkI_len n]
theorem eqInt64S_l0 (l : List Int) (hl : l.length ≤ 4611686018427387904) : ∀ (R : List Int) (i : Nat), l.drop i = R → Ev (fun k => laws_eqInt64S.l0 k l l i) true := by
  intro R
  induction R with
  | nil =>
    intro i h
    have := drop_nil h
    exact Ev.step (fun k => laws_eqInt64S.l0.eq_2 ..) (ev_neg (by omega) (Ev.now _))
  | cons c R ih =>
    intro i h
    obtain ⟨h1, h2, h3⟩ := rd_drop h
    refine Ev.step (fun k => laws_eqInt64S.l0.eq_2 ..) (ev_pos (by omega) (ev_pos (by omega) (ev_pos (by omega) (ev_pos rfl ?_))))
    rw [w64 (n := (i : Int) + 1) (by omega) (by omega)]
    exact ih (i + 1) h3
theorem eqInt64S_ev (l : List Int) (hl : l.length ≤ 4611686018427387904) : Ev (fun k => laws_eqInt64S.f k l l) true := by
  have h := eqInt64S_l0 l hl l 0 rfl
  exact ev_pos rfl h
/-! #### the same of strings -/
theorem toInt64SF_l1 (l : List Int) (hl : l.length ≤ 1000000000) : ∀ (d : Nat) (x : List Int) (j : Nat), x.length - j = d → x.length ≤ 3000000000 → l.length ≤ j → j ≤ x.length → x.take l.length = l →
    ∃ L, Ev (fun k => laws_toInt64SF.l1 k l x (j : Int)) L ∧ L.length = x.length ∧ L.take l.length = l := by
  intro d
  induction d with
  | zero =>
    intro x j hd hx hj hjx ht
    exact ⟨x, Ev.step (fun k => laws_toInt64SF.l1.eq_2 ..) (ev_neg (by omega) (ev_pos (by omega) (ev_pos (by omega) (Ev.now _)))), rfl, ht⟩
  | succ d ih =>
    intro x j hd hx hj hjx ht
    obtain ⟨L, e, h1, h2⟩ := ih (x.set j (-7000000000000000101)) (j + 1) (by rw [List.length_set]; omega) (by rw [List.length_set]; omega) (by omega) (by rw [List.length_set]; omega) (by rw [take_set_ge _ _ _ _ hj, ht])
    refine ⟨L, Ev.step (fun k => laws_toInt64SF.l1.eq_2 ..) (ev_pos (by omega) (ev_pos (by omega) ?_)), by rw [h1, List.length_set], h2⟩
    rw [Int.toNat_natCast, w64 (n := (j : Int) + 1) (by omega) (by omega)]
    exact e
theorem toInt64SF_l0 (l : List Int) (hl : l.length ≤ 1000000000) : ∀ (R : List Int) (i : Nat) (x : List Int), l.drop i = R → i ≤ l.length → l.length ≤ x.length → x.length ≤ 3000000000 → x.take i = l.take i →
    ∃ L, Ev (fun k => laws_toInt64SF.l0 k l x (i : Int)) L ∧ L.length = x.length ∧ L.take l.length = l := by
  intro R
  induction R with
  | nil =>
    intro i x h hi hx hx' ht
    have h1 := drop_nil h
    obtain ⟨L, e, h2⟩ := toInt64SF_l1 l hl (x.length - l.length) x l.length rfl hx' (Nat.le_refl _) hx (by rw [show l.length = i by omega, ht, List.take_of_length_le h1])
    exact ⟨L, Ev.step (fun k => laws_toInt64SF.l0.eq_2 ..) (ev_neg (by omega) e), h2⟩
  | cons c R ih =>
    intro i x h hi hx hx' ht
    obtain ⟨h1, h2, h3⟩ := rd_drop h
    obtain ⟨_, hc, _⟩ := drop_cons h
    obtain ⟨L, e, h4, h5⟩ := ih (i + 1) (x.set i c) h3 (by omega) (by rw [List.length_set]; omega) (by rw [List.length_set]; omega) (take_set_next x l i c (by omega) hc ht)
    refine ⟨L, Ev.step (fun k => laws_toInt64SF.l0.eq_2 ..) (ev_pos (by omega) (ev_pos (by omega) (ev_pos (by omega) ?_))), by rw [h4, List.length_set], h5⟩
    rw [h2, Int.toNat_natCast, w64 (n := (i : Int) + 1) (by omega) (by omega)]
    exact e
theorem toInt64SF_ev (l : List Int) (hl : l.length ≤ 1000000000) {t : Int} (ht : laws_roomBehind.f (l.length : Int) = some t) (t0 : 0 ≤ t) (t1 : t ≤ 1000000000) : ∃ L, Ev (fun k => laws_toInt64SF.f k l false) L ∧ (L.length : Int) = l.length + t ∧ L.take l.length = l := by
  obtain ⟨L, e, h1, h2⟩ := toInt64SF_l0 l hl l 0 (List.replicate ((l.length : Int) + t).toNat 0) rfl (by omega) (by rw [List.length_replicate]; omega) (by rw [List.length_replicate]; omega) (by simp)
  rw [List.length_replicate] at h1
  refine ⟨L, ?_, by omega, h2⟩
  refine ev_neg (by decide) (Ev.step (fun k => laws_toInt64SF.j0.eq_2 ..) (ev_neg (by decide) (ev_bind0 ht ?_)))
  rw [w64 (n := (l.length : Int) + t) (by omega) (by omega)]
  exact ev_pos (by omega) (ev_pos (by omega) e)
/-! #### the same, its room forgotten -/
theorem toInt64S_l1 (l : List Int) (hl : l.length ≤ 1000000000) : ∀ (d : Nat) (x : List Int) (j : Nat), x.length - j = d → x.length ≤ 3000000000 → l.length ≤ j → j ≤ x.length → x.take l.length = l →
    Ev (fun k => laws_toInt64S.l1 k l x (j : Int)) l := by
  intro d
  induction d with
  | zero =>
    intro x j hd hx hj hjx ht
    exact Ev.step (fun k => laws_toInt64S.l1.eq_2 ..) (ev_neg (by omega) (ev_pos (by omega) (ev_pos (by omega) (ev_ret (by rw [Int.toNat_natCast, ht])))))
  | succ d ih =>
    intro x j hd hx hj hjx ht
    have e := ih (x.set j (-7000000000000000101)) (j + 1) (by rw [List.length_set]; omega) (by rw [List.length_set]; omega) (by omega) (by rw [List.length_set]; omega) (by rw [take_set_ge _ _ _ _ hj, ht])
    refine Ev.step (fun k => laws_toInt64S.l1.eq_2 ..) (ev_pos (by omega) (ev_pos (by omega) ?_))
    rw [Int.toNat_natCast, w64 (n := (j : Int) + 1) (by omega) (by omega)]
    exact e
theorem toInt64S_l0 (l : List Int) (hl : l.length ≤ 1000000000) : ∀ (R : List Int) (i : Nat) (x : List Int), l.drop i = R → i ≤ l.length → l.length ≤ x.length → x.length ≤ 3000000000 → x.take i = l.take i →
    Ev (fun k => laws_toInt64S.l0 k l x (i : Int)) l := by
  intro R
  induction R with
  | nil =>
    intro i x h hi hx hx' ht
    have h1 := drop_nil h
    have e := toInt64S_l1 l hl (x.length - l.length) x l.length rfl hx' (Nat.le_refl _) hx (by rw [show l.length = i by omega, ht, List.take_of_length_le h1])
    exact Ev.step (fun k => laws_toInt64S.l0.eq_2 ..) (ev_neg (by omega) e)
  | cons c R ih =>
    intro i x h hi hx hx' ht
    obtain ⟨h1, h2, h3⟩ := rd_drop h
    obtain ⟨_, hc, _⟩ := drop_cons h
    have e := ih (i + 1) (x.set i c) h3 (by omega) (by rw [List.length_set]; omega) (by rw [List.length_set]; omega) (take_set_next x l i c (by omega) hc ht)
    refine Ev.step (fun k => laws_toInt64S.l0.eq_2 ..) (ev_pos (by omega) (ev_pos (by omega) (ev_pos (by omega) ?_)))
    rw [h2, Int.toNat_natCast, w64 (n := (i : Int) + 1) (by omega) (by omega)]
    exact e
theorem toInt64S_bare (l : List Int) (hl : l.length ≤ 1000000000) : Ev (fun k => laws_toInt64S.f k l true) l := by
  refine ev_pos rfl (Ev.step (fun k => laws_toInt64S.j0.eq_2 ..) ?_)
  by_cases a : l.length = 0
  · exact ev_pos (by simp [a]) (ev_ret (by symm; exact List.length_eq_zero_iff.1 a))
  · obtain ⟨t, et, t0, t1⟩ := room_some l.length hl
    refine ev_neg (by simp; intro h; simp [h] at a) (ev_bind0 et ?_)
    rw [w64 (n := (l.length : Int) + t) (by omega) (by omega)]
    refine ev_pos (by omega) (ev_pos (by omega) ?_)
    exact toInt64S_l0 l hl l 0 (List.replicate ((l.length : Int) + t).toNat 0) rfl (by omega) (by rw [List.length_replicate]; omega) (by rw [List.length_replicate]; omega) (by simp)

theorem maxLen_eq : maxLen ≤ 9223372036854775807 := by unfold maxLen; decide
theorem drawn_below {w w' : World} (h : Drawn0 w w') : Below w.heap.size w w' := by
  obtain ⟨n, rfl⟩ := h
  exact pw_below_drewN (Below.refl _ _) n
theorem takeC {α : Type} {d : Kd α} {w : World} {A : Option Addr} {n : Nat} {M L : List α} (hLt : L.take n = M) (hM : M.length = n) (hLl : n ≤ L.length) (h : Kd.C d w A L.length L) : Kd.C d w A M.length M := by
  have := Kd.C_take (m := n) h hLl
  rwa [hLt] at this
theorem ofRow3 {w : World} {a : Option Addr} {len cap : Nat} {zs : List (Int × Int × Int)} (h : (a = none ∧ len = 0 ∧ cap = 0 ∧ zs = []) ∨ ∃ x, a = some x ∧ len ≤ cap ∧ cap ≤ maxLen ∧ zs.length = len ∧ ∀ i p, zs[i]? = some p → (w.cell? (x.add (i * 3 + 0)) = some (.int .i64 (p.1)) ∧ w.cell? (x.add (i * 3 + 1)) = some (.int .i64 (p.2.1)) ∧ w.cell? (x.add (i * 3 + 2)) = some (.int .i64 (p.2.2)) ∧ (Lit.int .i64 p.1).wf = true ∧ (Lit.int .i64 p.2.1).wf = true ∧ (Lit.int .i64 p.2.2).wf = true)) :
    ∃ l : List S64, len = l.length ∧ Kd.C k64 w a l.length l ∧ l.length ≤ cap ∧ l.length ≤ maxLen := by
  rcases h with ⟨rfl, rfl, rfl, rfl⟩ | ⟨x, rfl, h1, h2, h3, h4⟩
  · exact ⟨[], rfl, ⟨rfl, by simp, fun h => absurd h (by simp)⟩, by simp, by simp⟩
  · have hm := maxLen_eq
    refine ⟨zs.map fun p => ⟨p.1, p.2.1, p.2.2⟩, by simp [h3], ⟨rfl, by simp; omega, fun _ => ⟨x, rfl, fun j q hj => ?_⟩⟩, by simp; omega, by simp; omega⟩
    rw [List.getElem?_map] at hj
    obtain ⟨p, hp, rfl⟩ := Option.map_eq_some_iff.1 hj
    obtain ⟨g0, g1, g2, _⟩ := h4 j p hp
    refine ⟨_, rfl, k64_mk w _, fun i u hi => ?_⟩
    match i, hi with
    | 0, hi => simp at hi; subst hi; exact g0
    | 1, hi => simp at hi; subst hi; exact g1
    | 2, hi => simp at hi; subst hi; exact g2
    | i + 3, hi => simp at hi

set_option maxHeartbeats 8000000 in
set_option maxRecDepth 100000 in
theorem go (k : Nat) (A0 : Option Addr) (c0 : Nat) (l0 : List S64) (A1 : Option Addr) (c1 : Nat) (l1 : List Int) (A2 : Option Addr) (c2 : Nat) (l2 : List Int) (M L0 : List S55) (L1 L2 : List Int) (s1 s2 z r t room0 room1 room2 : Int) (w : World) (hr0 : Kd.C k64 w A0 l0.length l0) (hc0 : l0.length ≤ c0) (hr1 : Kd.C (Kd.int .i64) w A1 l1.length l1) (hc1 : l1.length ≤ c1) (hr2 : Kd.C (Kd.int .i64) w A2 l2.length l2) (hc2 : l2.length ≤ c2)
    (hs1 : IntKind.i64.wrap (1000000 - (l1.length : Int)) = s1) (hs2 : IntKind.i64.wrap (s1 - (l2.length : Int)) = s2) (hsz : laws_szLayerS.f l0 s2 = some z) (hz : ¬ z < 0) (hM : M.length = l0.length)
    (hfull0 : laws_toLayerSF.f k l0 false = some L0) (hLt0 : L0.take l0.length = M) (hLl0 : l0.length ≤ L0.length) (hLr0 : (L0.length : Int) = l0.length + room0) (hroom0 : laws_roomBehind.f (l0.length : Int) = some room0) (hz0 : 0 ≤ room0) (hy0 : room0 ≤ 1000000000000) (hn0 : l0.length ≤ 1000000000000) (hbare0 : laws_toLayerS.f k l0 true = some M) (heq0 : laws_eqLayerS.f k L0 L0 = some true)
    (hfull1 : laws_toInt64SF.f k l1 false = some L1) (hLt1 : L1.take l1.length = l1) (hLl1 : l1.length ≤ L1.length) (hLr1 : (L1.length : Int) = l1.length + room1) (hroom1 : laws_roomBehind.f (l1.length : Int) = some room1) (hz1 : 0 ≤ room1) (hy1 : room1 ≤ 1000000000000) (hn1 : l1.length ≤ 1000000000000) (hbare1 : laws_toInt64S.f k l1 true = some l1) (heq1 : laws_eqInt64S.f k L1 L1 = some true)
    (hfull2 : laws_toInt64SF.f k l2 false = some L2) (hLt2 : L2.take l2.length = l2) (hLl2 : l2.length ≤ L2.length) (hLr2 : (L2.length : Int) = l2.length + room2) (hroom2 : laws_roomBehind.f (l2.length : Int) = some room2) (hz2 : 0 ≤ room2) (hy2 : room2 ≤ 1000000000000) (hn2 : l2.length ≤ 1000000000000) (hbare2 : laws_toInt64S.f k l2 true = some l2) (heq2 : laws_eqInt64S.f k L2 L2 = some true)
    (hspec : spec_FirstGust.f k M l1 l2 = some (r, t)) (himpl : impl_FirstGust.f k M l1 l2 = some (r, t)) :
    Calls Try.prog 9 #[.slice A0 l0.length c0, .slice A1 l1.length c1, .slice A2 l2.length c2] w fun e w' => e = .returned (.bool true) ∧ Below w.heap.size w w' := by
  have take0 : ∀ {w : World} {A : Option Addr}, Kd.C k55 w A L0.length L0 → Kd.C k55 w A M.length M := takeC hLt0 hM hLl0
  have take1 : ∀ {w : World} {A : Option Addr}, Kd.C (Kd.int .i64) w A L1.length L1 → Kd.C (Kd.int .i64) w A l1.length l1 := takeC hLt1 rfl hLl1
  have take2 : ∀ {w : World} {A : Option Addr}, Kd.C (Kd.int .i64) w A L2.length L2 → Kd.C (Kd.int .i64) w A l2.length l2 := takeC hLt2 rfl hLl2
  have chspec : ∀ (A : Option Addr) (c : Nat) (B : Option Addr) (d : Nat) (C : Option Addr) (f : Nat) (w : World), Kd.C k55 w A M.length M → M.length ≤ c → Kd.C (Kd.int .i64) w B l1.length l1 → l1.length ≤ d → Kd.C (Kd.int .i64) w C l2.length l2 → l2.length ≤ f → Calls Try.prog 32 #[.slice A l0.length c, .slice B l1.length d, .slice C l2.length f] w fun e w' => e = .returned (.tuple #[.int .i64 r, .int .i64 t]) ∧ Below w.heap.size w w' := by
    intro A c B d C f w h1 h2 h3 h4 h5 h6
    rw [← hM]
    exact spec_FirstGust.calls k _ _ M _ _ l1 _ _ l2 r t w h1 h2 h3 h4 h5 h6 hspec
  have chimpl : ∀ (A : Option Addr) (c : Nat) (B : Option Addr) (d : Nat) (C : Option Addr) (f : Nat) (w : World), Kd.C k55 w A M.length M → M.length ≤ c → Kd.C (Kd.int .i64) w B l1.length l1 → l1.length ≤ d → Kd.C (Kd.int .i64) w C l2.length l2 → l2.length ≤ f → Calls Try.prog 34 #[.slice A l0.length c, .slice B l1.length d, .slice C l2.length f] w fun e w' => e = .returned (.tuple #[.int .i64 r, .int .i64 t]) ∧ Below w.heap.size w w' := by
    intro A c B d C f w h1 h2 h3 h4 h5 h6
    rw [← hM]
    exact impl_FirstGust.calls k _ _ M _ _ l1 _ _ l2 r t w h1 h2 h3 h4 h5 h6 himpl
  rw [← hM] at hLl0
  have HR0 := Aside0.mk hr0
  have HC0 := Aside0.mk hc0
  have HR1 := Aside0.mk hr1
  have HC1 := Aside0.mk hc1
  have HR2 := Aside0.mk hr2
  have HC2 := Aside0.mk hc2
  have HB := Aside0.mk (Below.refl w.heap.size w)
  have c2b0 : decide (z < 0) = false := decide_eq_false hz
  have qr0 : (r == r) = true := by simp
  have qr1 : (r != r) = false := by simp
  have qt0 : (t == t) = true := by simp
  have qt1 : (t != t) = false := by simp
  clear hr0 hc0 hr1 hc1 hr2 hc2 hz
  go_enter Try.func9, Try.ntmps9
  go_wp2_with (first | ((with_reducible refine gate_callee (f := 14) rfl ?_); refine goesL_ (some 25) rfl rfl Try.func14 (by kernel_rfl) rfl #[.slice A0 l0.length c0, .int .i64 s2] rfl (by (try simp only [List.map_toArray, List.map_cons, List.map_nil]); first | done | rfl | (simp only [List.length_drop, List.length_take]; rfl) | (go_simp; done) | (simp; done) | (simp; rfl)) ?_; (with_reducible refine (laws_szLayerS.calls _ _ l0 s2 z _ ?side1 ?side2 hsz).mono ?_); (case side1 => repeat (first | exact (Kd.C_below HR0.out (by repeat (first | (with_reducible first | exact HB.out | apply below_alloc | apply pw_below_drewN | apply below_drew1) | exact HB.out))) | (with_reducible refine Kd.C_alloc ?_ _) | (with_reducible refine Kd.C_drewN ?_ _) | (with_reducible refine Kd.C_drew ?_))); (case side2 => exact HC0.out); rintro e wo ⟨rfl, hd⟩; have hb := drawn_below hd; clear hd; refine ⟨_, rfl, ?_⟩; have nb_ := Aside0.mk (below_step (by repeat (first | (with_reducible first | exact HB.out | apply below_alloc | apply pw_below_drewN | apply below_drew1) | exact HB.out)) hb); clear HB; have HB := nb_; clear nb_ hb) | ((with_reducible refine gate_callee (f := 16) rfl ?_); refine goesL_ (some 30) rfl rfl Try.func16 (by kernel_rfl) rfl #[.slice A0 l0.length c0, .bool false] rfl (by (try simp only [List.map_toArray, List.map_cons, List.map_nil]); first | done | rfl | (simp only [List.length_drop, List.length_take]; rfl) | (go_simp; done) | (simp; done) | (simp; rfl)) ?_; (with_reducible refine (laws_toLayerSF.calls k _ _ l0 false L0 _ ?side1 ?side2 hfull0).mono ?_); (case side1 => repeat (first | exact (Kd.C_below HR0.out (by repeat (first | (with_reducible first | exact HB.out | apply below_alloc | apply pw_below_drewN | apply below_drew1) | exact HB.out))) | (with_reducible refine Kd.C_alloc ?_ _) | (with_reducible refine Kd.C_drewN ?_ _) | (with_reducible refine Kd.C_drew ?_))); (case side2 => exact HC0.out); rintro e wp ⟨Ap, cp, rfl, hR, _, hb⟩; have HKp := Aside0.mk (Kd.R_reads' hR).2.2; have HLp := Aside0.mk (Kd.R_reads' hR).2.1; clear hR; refine ⟨_, rfl, ?_⟩; have nb_ := Aside0.mk (below_step (by repeat (first | (with_reducible first | exact HB.out | apply below_alloc | apply pw_below_drewN | apply below_drew1) | exact HB.out)) hb); clear HB; have HB := nb_; clear nb_ hb) | ((with_reducible refine gate_callee (f := 33) rfl ?_); refine goesL_ (some 32) rfl rfl Try.func33 (by kernel_rfl) rfl #[.slice A1 l1.length c1, .bool false] rfl (by (try simp only [List.map_toArray, List.map_cons, List.map_nil]); first | done | rfl | (simp only [List.length_drop, List.length_take]; rfl) | (go_simp; done) | (simp; done) | (simp; rfl)) ?_; (with_reducible refine (laws_toInt64SF.calls k _ _ l1 false L1 _ ?side1 ?side2 hfull1).mono ?_); (case side1 => repeat (first | exact (Kd.C_below HR1.out (by repeat (first | (with_reducible first | exact HB.out | apply below_alloc | apply pw_below_drewN | apply below_drew1) | exact HB.out))) | (with_reducible refine Kd.C_alloc ?_ _) | (with_reducible refine Kd.C_drewN ?_ _) | (with_reducible refine Kd.C_drew ?_))); (case side2 => exact HC1.out); rintro e wq ⟨Aq, cq, rfl, hR, _, hb⟩; have HKq := Aside0.mk (Kd.R_reads' hR).2.2; have HLq := Aside0.mk (Kd.R_reads' hR).2.1; clear hR; refine ⟨_, rfl, ?_⟩; have n0_ := Aside0.mk (Kd.C_below (by repeat (first | exact HKp.out | (with_reducible refine Kd.C_alloc ?_ _) | (with_reducible refine Kd.C_drewN ?_ _) | (with_reducible refine Kd.C_drew ?_))) hb); have nb_ := Aside0.mk (below_step (by repeat (first | (with_reducible first | exact HB.out | apply below_alloc | apply pw_below_drewN | apply below_drew1) | exact HB.out)) hb); clear HKp; clear HB; have HKp := n0_; have HB := nb_; clear n0_ nb_ hb) | ((with_reducible refine gate_callee (f := 33) rfl ?_); refine goesL_ (some 34) rfl rfl Try.func33 (by kernel_rfl) rfl #[.slice A2 l2.length c2, .bool false] rfl (by (try simp only [List.map_toArray, List.map_cons, List.map_nil]); first | done | rfl | (simp only [List.length_drop, List.length_take]; rfl) | (go_simp; done) | (simp; done) | (simp; rfl)) ?_; (with_reducible refine (laws_toInt64SF.calls k _ _ l2 false L2 _ ?side1 ?side2 hfull2).mono ?_); (case side1 => repeat (first | exact (Kd.C_below HR2.out (by repeat (first | (with_reducible first | exact HB.out | apply below_alloc | apply pw_below_drewN | apply below_drew1) | exact HB.out))) | (with_reducible refine Kd.C_alloc ?_ _) | (with_reducible refine Kd.C_drewN ?_ _) | (with_reducible refine Kd.C_drew ?_))); (case side2 => exact HC2.out); rintro e wr ⟨Ar, cr, rfl, hR, _, hb⟩; have HKr := Aside0.mk (Kd.R_reads' hR).2.2; have HLr := Aside0.mk (Kd.R_reads' hR).2.1; clear hR; refine ⟨_, rfl, ?_⟩; have n0_ := Aside0.mk (Kd.C_below (by repeat (first | exact HKp.out | (with_reducible refine Kd.C_alloc ?_ _) | (with_reducible refine Kd.C_drewN ?_ _) | (with_reducible refine Kd.C_drew ?_))) hb); have n1_ := Aside0.mk (Kd.C_below (by repeat (first | exact HKq.out | (with_reducible refine Kd.C_alloc ?_ _) | (with_reducible refine Kd.C_drewN ?_ _) | (with_reducible refine Kd.C_drew ?_))) hb); have nb_ := Aside0.mk (below_step (by repeat (first | (with_reducible first | exact HB.out | apply below_alloc | apply pw_below_drewN | apply below_drew1) | exact HB.out)) hb); clear HKp; clear HKq; clear HB; have HKp := n0_; have HKq := n1_; have HB := nb_; clear n0_ n1_ nb_ hb) | ((with_reducible refine gate_callee (f := 32) rfl ?_); refine goesL_ (some 35) rfl rfl Try.func32 (by kernel_rfl) rfl #[.slice Ap l0.length cp, .slice Aq l1.length cq, .slice Ar l2.length cr] rfl (by (try simp only [List.map_toArray, List.map_cons, List.map_nil]); first | done | rfl | (simp only [List.length_drop, List.length_take]; rfl) | (go_simp; done) | (simp; done) | (simp; rfl)) ?_; (with_reducible refine (chspec _ _ _ _ _ _ _ ?side1 ?side2 ?side3 ?side4 ?side5 ?side6).mono ?_); (case side1 => repeat (first | exact (take0 HKp.out) | (with_reducible refine Kd.C_alloc ?_ _) | (with_reducible refine Kd.C_drewN ?_ _) | (with_reducible refine Kd.C_drew ?_))); (case side2 => exact (Nat.le_trans hLl0 HLp.out)); (case side3 => repeat (first | exact (take1 HKq.out) | (with_reducible refine Kd.C_alloc ?_ _) | (with_reducible refine Kd.C_drewN ?_ _) | (with_reducible refine Kd.C_drew ?_))); (case side4 => exact (Nat.le_trans hLl1 HLq.out)); (case side5 => repeat (first | exact (take2 HKr.out) | (with_reducible refine Kd.C_alloc ?_ _) | (with_reducible refine Kd.C_drewN ?_ _) | (with_reducible refine Kd.C_drew ?_))); (case side6 => exact (Nat.le_trans hLl2 HLr.out)); rintro e wa ⟨rfl, hb⟩; refine ⟨_, rfl, ?_⟩; have n0_ := Aside0.mk (Kd.C_below (by repeat (first | exact HKp.out | (with_reducible refine Kd.C_alloc ?_ _) | (with_reducible refine Kd.C_drewN ?_ _) | (with_reducible refine Kd.C_drew ?_))) hb); have n1_ := Aside0.mk (Kd.C_below (by repeat (first | exact HKq.out | (with_reducible refine Kd.C_alloc ?_ _) | (with_reducible refine Kd.C_drewN ?_ _) | (with_reducible refine Kd.C_drew ?_))) hb); have n2_ := Aside0.mk (Kd.C_below (by repeat (first | exact HKr.out | (with_reducible refine Kd.C_alloc ?_ _) | (with_reducible refine Kd.C_drewN ?_ _) | (with_reducible refine Kd.C_drew ?_))) hb); have nb_ := Aside0.mk (below_step (by repeat (first | (with_reducible first | exact HB.out | apply below_alloc | apply pw_below_drewN | apply below_drew1) | exact HB.out)) hb); clear HKp; clear HKq; clear HKr; clear HB; have HKp := n0_; have HKq := n1_; have HKr := n2_; have HB := nb_; clear n0_ n1_ n2_ nb_ hb) | ((with_reducible refine gate_callee (f := 16) rfl ?_); refine goesL_ (some 39) rfl rfl Try.func16 (by kernel_rfl) rfl #[.slice A0 l0.length c0, .bool false] rfl (by (try simp only [List.map_toArray, List.map_cons, List.map_nil]); first | done | rfl | (simp only [List.length_drop, List.length_take]; rfl) | (go_simp; done) | (simp; done) | (simp; rfl)) ?_; (with_reducible refine (laws_toLayerSF.calls k _ _ l0 false L0 _ ?side1 ?side2 hfull0).mono ?_); (case side1 => repeat (first | exact (Kd.C_below HR0.out (by repeat (first | (with_reducible first | exact HB.out | apply below_alloc | apply pw_below_drewN | apply below_drew1) | exact HB.out))) | (with_reducible refine Kd.C_alloc ?_ _) | (with_reducible refine Kd.C_drewN ?_ _) | (with_reducible refine Kd.C_drew ?_))); (case side2 => exact HC0.out); rintro e wx ⟨Ax, cx, rfl, hR, _, hb⟩; have HKx := Aside0.mk (Kd.R_reads' hR).2.2; have HLx := Aside0.mk (Kd.R_reads' hR).2.1; clear hR; refine ⟨_, rfl, ?_⟩; have nb_ := Aside0.mk (below_step (by repeat (first | (with_reducible first | exact HB.out | apply below_alloc | apply pw_below_drewN | apply below_drew1) | exact HB.out)) hb); clear HB; have HB := nb_; clear nb_ hb) | ((with_reducible refine gate_callee (f := 33) rfl ?_); refine goesL_ (some 41) rfl rfl Try.func33 (by kernel_rfl) rfl #[.slice A1 l1.length c1, .bool false] rfl (by (try simp only [List.map_toArray, List.map_cons, List.map_nil]); first | done | rfl | (simp only [List.length_drop, List.length_take]; rfl) | (go_simp; done) | (simp; done) | (simp; rfl)) ?_; (with_reducible refine (laws_toInt64SF.calls k _ _ l1 false L1 _ ?side1 ?side2 hfull1).mono ?_); (case side1 => repeat (first | exact (Kd.C_below HR1.out (by repeat (first | (with_reducible first | exact HB.out | apply below_alloc | apply pw_below_drewN | apply below_drew1) | exact HB.out))) | (with_reducible refine Kd.C_alloc ?_ _) | (with_reducible refine Kd.C_drewN ?_ _) | (with_reducible refine Kd.C_drew ?_))); (case side2 => exact HC1.out); rintro e wy ⟨Ay, cy, rfl, hR, _, hb⟩; have HKy := Aside0.mk (Kd.R_reads' hR).2.2; have HLy := Aside0.mk (Kd.R_reads' hR).2.1; clear hR; refine ⟨_, rfl, ?_⟩; have n0_ := Aside0.mk (Kd.C_below (by repeat (first | exact HKx.out | (with_reducible refine Kd.C_alloc ?_ _) | (with_reducible refine Kd.C_drewN ?_ _) | (with_reducible refine Kd.C_drew ?_))) hb); have nb_ := Aside0.mk (below_step (by repeat (first | (with_reducible first | exact HB.out | apply below_alloc | apply pw_below_drewN | apply below_drew1) | exact HB.out)) hb); clear HKx; clear HB; have HKx := n0_; have HB := nb_; clear n0_ nb_ hb) | ((with_reducible refine gate_callee (f := 33) rfl ?_); refine goesL_ (some 43) rfl rfl Try.func33 (by kernel_rfl) rfl #[.slice A2 l2.length c2, .bool false] rfl (by (try simp only [List.map_toArray, List.map_cons, List.map_nil]); first | done | rfl | (simp only [List.length_drop, List.length_take]; rfl) | (go_simp; done) | (simp; done) | (simp; rfl)) ?_; (with_reducible refine (laws_toInt64SF.calls k _ _ l2 false L2 _ ?side1 ?side2 hfull2).mono ?_); (case side1 => repeat (first | exact (Kd.C_below HR2.out (by repeat (first | (with_reducible first | exact HB.out | apply below_alloc | apply pw_below_drewN | apply below_drew1) | exact HB.out))) | (with_reducible refine Kd.C_alloc ?_ _) | (with_reducible refine Kd.C_drewN ?_ _) | (with_reducible refine Kd.C_drew ?_))); (case side2 => exact HC2.out); rintro e wu ⟨Au, cu, rfl, hR, _, hb⟩; have HKu := Aside0.mk (Kd.R_reads' hR).2.2; have HLu := Aside0.mk (Kd.R_reads' hR).2.1; clear hR; refine ⟨_, rfl, ?_⟩; have n0_ := Aside0.mk (Kd.C_below (by repeat (first | exact HKx.out | (with_reducible refine Kd.C_alloc ?_ _) | (with_reducible refine Kd.C_drewN ?_ _) | (with_reducible refine Kd.C_drew ?_))) hb); have n1_ := Aside0.mk (Kd.C_below (by repeat (first | exact HKy.out | (with_reducible refine Kd.C_alloc ?_ _) | (with_reducible refine Kd.C_drewN ?_ _) | (with_reducible refine Kd.C_drew ?_))) hb); have nb_ := Aside0.mk (below_step (by repeat (first | (with_reducible first | exact HB.out | apply below_alloc | apply pw_below_drewN | apply below_drew1) | exact HB.out)) hb); clear HKx; clear HKy; clear HB; have HKx := n0_; have HKy := n1_; have HB := nb_; clear n0_ n1_ nb_ hb) | ((with_reducible refine gate_callee (f := 34) rfl ?_); refine goesL_ (some 48) rfl rfl Try.func34 (by kernel_rfl) rfl #[.slice Ax l0.length cx, .slice Ay l1.length cy, .slice Au l2.length cu] rfl (by (try simp only [List.map_toArray, List.map_cons, List.map_nil]); first | done | rfl | (simp only [List.length_drop, List.length_take]; rfl) | (go_simp; done) | (simp; done) | (simp; rfl)) ?_; (with_reducible refine (chimpl _ _ _ _ _ _ _ ?side1 ?side2 ?side3 ?side4 ?side5 ?side6).mono ?_); (case side1 => repeat (first | exact (take0 HKx.out) | (with_reducible refine Kd.C_alloc ?_ _) | (with_reducible refine Kd.C_drewN ?_ _) | (with_reducible refine Kd.C_drew ?_))); (case side2 => exact (Nat.le_trans hLl0 HLx.out)); (case side3 => repeat (first | exact (take1 HKy.out) | (with_reducible refine Kd.C_alloc ?_ _) | (with_reducible refine Kd.C_drewN ?_ _) | (with_reducible refine Kd.C_drew ?_))); (case side4 => exact (Nat.le_trans hLl1 HLy.out)); (case side5 => repeat (first | exact (take2 HKu.out) | (with_reducible refine Kd.C_alloc ?_ _) | (with_reducible refine Kd.C_drewN ?_ _) | (with_reducible refine Kd.C_drew ?_))); (case side6 => exact (Nat.le_trans hLl2 HLu.out)); rintro e wb ⟨rfl, hb⟩; refine ⟨_, rfl, ?_⟩; have n0_ := Aside0.mk (Kd.C_below (by repeat (first | exact HKx.out | (with_reducible refine Kd.C_alloc ?_ _) | (with_reducible refine Kd.C_drewN ?_ _) | (with_reducible refine Kd.C_drew ?_))) hb); have n1_ := Aside0.mk (Kd.C_below (by repeat (first | exact HKy.out | (with_reducible refine Kd.C_alloc ?_ _) | (with_reducible refine Kd.C_drewN ?_ _) | (with_reducible refine Kd.C_drew ?_))) hb); have n2_ := Aside0.mk (Kd.C_below (by repeat (first | exact HKu.out | (with_reducible refine Kd.C_alloc ?_ _) | (with_reducible refine Kd.C_drewN ?_ _) | (with_reducible refine Kd.C_drew ?_))) hb); have nb_ := Aside0.mk (below_step (by repeat (first | (with_reducible first | exact HB.out | apply below_alloc | apply pw_below_drewN | apply below_drew1) | exact HB.out)) hb); clear HKx; clear HKy; clear HKu; clear HB; have HKx := n0_; have HKy := n1_; have HKu := n2_; have HB := nb_; clear n0_ n1_ n2_ nb_ hb) | ((with_reducible refine gate_callee (f := 16) rfl ?_); refine goesL_ (some 61) rfl rfl Try.func16 (by kernel_rfl) rfl #[.slice A0 l0.length c0, .bool false] rfl (by (try simp only [List.map_toArray, List.map_cons, List.map_nil]); first | done | rfl | (simp only [List.length_drop, List.length_take]; rfl) | (go_simp; done) | (simp; done) | (simp; rfl)) ?_; (with_reducible refine (laws_toLayerSF.calls k _ _ l0 false L0 _ ?side1 ?side2 hfull0).mono ?_); (case side1 => repeat (first | exact (Kd.C_below HR0.out (by repeat (first | (with_reducible first | exact HB.out | apply below_alloc | apply pw_below_drewN | apply below_drew1) | exact HB.out))) | (with_reducible refine Kd.C_alloc ?_ _) | (with_reducible refine Kd.C_drewN ?_ _) | (with_reducible refine Kd.C_drew ?_))); (case side2 => exact HC0.out); rintro e wxx ⟨Axx, cxx, rfl, hR, _, hb⟩; have HKxx := Aside0.mk (Kd.R_reads' hR).2.2; have HLxx := Aside0.mk (Kd.R_reads' hR).2.1; clear hR; refine ⟨_, rfl, ?_⟩; have n0_ := Aside0.mk (Kd.C_below (by repeat (first | exact HKx.out | (with_reducible refine Kd.C_alloc ?_ _) | (with_reducible refine Kd.C_drewN ?_ _) | (with_reducible refine Kd.C_drew ?_))) hb); have n1_ := Aside0.mk (Kd.C_below (by repeat (first | exact HKy.out | (with_reducible refine Kd.C_alloc ?_ _) | (with_reducible refine Kd.C_drewN ?_ _) | (with_reducible refine Kd.C_drew ?_))) hb); have n2_ := Aside0.mk (Kd.C_below (by repeat (first | exact HKu.out | (with_reducible refine Kd.C_alloc ?_ _) | (with_reducible refine Kd.C_drewN ?_ _) | (with_reducible refine Kd.C_drew ?_))) hb); have nb_ := Aside0.mk (below_step (by repeat (first | (with_reducible first | exact HB.out | apply below_alloc | apply pw_below_drewN | apply below_drew1) | exact HB.out)) hb); clear HKx; clear HKy; clear HKu; clear HB; have HKx := n0_; have HKy := n1_; have HKu := n2_; have HB := nb_; clear n0_ n1_ n2_ nb_ hb) | ((with_reducible refine gate_callee (f := 18) rfl ?_); refine goesL_ (some 62) rfl rfl Try.func18 (by kernel_rfl) rfl #[.slice Ax l0.length cx, .slice Axx l0.length cxx] rfl (by (try simp only [List.map_toArray, List.map_cons, List.map_nil]); first | done | rfl | (simp only [List.length_drop, List.length_take]; rfl) | (go_simp; done) | (simp; done) | (simp; rfl)) ?_; (with_reducible refine (laws_intactLayerSF.calls k l0.length _ _ L0 _ _ L0 room0 _ ?side1 ?side2 ?side3 ?side4 hroom0 hn0 hz0 hy0 hLr0 hLr0 heq0).mono ?_); (case side1 => repeat (first | exact HKx.out | (with_reducible refine Kd.C_alloc ?_ _) | (with_reducible refine Kd.C_drewN ?_ _) | (with_reducible refine Kd.C_drew ?_))); (case side2 => exact HLx.out); (case side3 => repeat (first | exact HKxx.out | (with_reducible refine Kd.C_alloc ?_ _) | (with_reducible refine Kd.C_drewN ?_ _) | (with_reducible refine Kd.C_drew ?_))); (case side4 => exact HLxx.out); rintro e wi0 ⟨rfl, hb⟩; refine ⟨_, rfl, ?_⟩; have n0_ := Aside0.mk (Kd.C_below (by repeat (first | exact HKx.out | (with_reducible refine Kd.C_alloc ?_ _) | (with_reducible refine Kd.C_drewN ?_ _) | (with_reducible refine Kd.C_drew ?_))) hb); have n1_ := Aside0.mk (Kd.C_below (by repeat (first | exact HKy.out | (with_reducible refine Kd.C_alloc ?_ _) | (with_reducible refine Kd.C_drewN ?_ _) | (with_reducible refine Kd.C_drew ?_))) hb); have n2_ := Aside0.mk (Kd.C_below (by repeat (first | exact HKu.out | (with_reducible refine Kd.C_alloc ?_ _) | (with_reducible refine Kd.C_drewN ?_ _) | (with_reducible refine Kd.C_drew ?_))) hb); have n3_ := Aside0.mk (Kd.C_below (by repeat (first | exact HKxx.out | (with_reducible refine Kd.C_alloc ?_ _) | (with_reducible refine Kd.C_drewN ?_ _) | (with_reducible refine Kd.C_drew ?_))) hb); have nb_ := Aside0.mk (below_step (by repeat (first | (with_reducible first | exact HB.out | apply below_alloc | apply pw_below_drewN | apply below_drew1) | exact HB.out)) hb); clear HKx; clear HKy; clear HKu; clear HKxx; clear HB; have HKx := n0_; have HKy := n1_; have HKu := n2_; have HKxx := n3_; have HB := nb_; clear n0_ n1_ n2_ n3_ nb_ hb) | ((with_reducible refine gate_callee (f := 33) rfl ?_); refine goesL_ (some 66) rfl rfl Try.func33 (by kernel_rfl) rfl #[.slice A1 l1.length c1, .bool false] rfl (by (try simp only [List.map_toArray, List.map_cons, List.map_nil]); first | done | rfl | (simp only [List.length_drop, List.length_take]; rfl) | (go_simp; done) | (simp; done) | (simp; rfl)) ?_; (with_reducible refine (laws_toInt64SF.calls k _ _ l1 false L1 _ ?side1 ?side2 hfull1).mono ?_); (case side1 => repeat (first | exact (Kd.C_below HR1.out (by repeat (first | (with_reducible first | exact HB.out | apply below_alloc | apply pw_below_drewN | apply below_drew1) | exact HB.out))) | (with_reducible refine Kd.C_alloc ?_ _) | (with_reducible refine Kd.C_drewN ?_ _) | (with_reducible refine Kd.C_drew ?_))); (case side2 => exact HC1.out); rintro e wyy ⟨Ayy, cyy, rfl, hR, _, hb⟩; have HKyy := Aside0.mk (Kd.R_reads' hR).2.2; have HLyy := Aside0.mk (Kd.R_reads' hR).2.1; clear hR; refine ⟨_, rfl, ?_⟩; have n0_ := Aside0.mk (Kd.C_below (by repeat (first | exact HKx.out | (with_reducible refine Kd.C_alloc ?_ _) | (with_reducible refine Kd.C_drewN ?_ _) | (with_reducible refine Kd.C_drew ?_))) hb); have n1_ := Aside0.mk (Kd.C_below (by repeat (first | exact HKy.out | (with_reducible refine Kd.C_alloc ?_ _) | (with_reducible refine Kd.C_drewN ?_ _) | (with_reducible refine Kd.C_drew ?_))) hb); have n2_ := Aside0.mk (Kd.C_below (by repeat (first | exact HKu.out | (with_reducible refine Kd.C_alloc ?_ _) | (with_reducible refine Kd.C_drewN ?_ _) | (with_reducible refine Kd.C_drew ?_))) hb); have nb_ := Aside0.mk (below_step (by repeat (first | (with_reducible first | exact HB.out | apply below_alloc | apply pw_below_drewN | apply below_drew1) | exact HB.out)) hb); clear HKx; clear HKy; clear HKu; clear HB; have HKx := n0_; have HKy := n1_; have HKu := n2_; have HB := nb_; clear n0_ n1_ n2_ nb_ hb) | ((with_reducible refine gate_callee (f := 35) rfl ?_); refine goesL_ (some 67) rfl rfl Try.func35 (by kernel_rfl) rfl #[.slice Ay l1.length cy, .slice Ayy l1.length cyy] rfl (by (try simp only [List.map_toArray, List.map_cons, List.map_nil]); first | done | rfl | (simp only [List.length_drop, List.length_take]; rfl) | (go_simp; done) | (simp; done) | (simp; rfl)) ?_; (with_reducible refine (laws_intactInt64SF.calls k l1.length _ _ L1 _ _ L1 room1 _ ?side1 ?side2 ?side3 ?side4 hroom1 hn1 hz1 hy1 hLr1 hLr1 heq1).mono ?_); (case side1 => repeat (first | exact HKy.out | (with_reducible refine Kd.C_alloc ?_ _) | (with_reducible refine Kd.C_drewN ?_ _) | (with_reducible refine Kd.C_drew ?_))); (case side2 => exact HLy.out); (case side3 => repeat (first | exact HKyy.out | (with_reducible refine Kd.C_alloc ?_ _) | (with_reducible refine Kd.C_drewN ?_ _) | (with_reducible refine Kd.C_drew ?_))); (case side4 => exact HLyy.out); rintro e wi1 ⟨rfl, hb⟩; refine ⟨_, rfl, ?_⟩; have n0_ := Aside0.mk (Kd.C_below (by repeat (first | exact HKx.out | (with_reducible refine Kd.C_alloc ?_ _) | (with_reducible refine Kd.C_drewN ?_ _) | (with_reducible refine Kd.C_drew ?_))) hb); have n1_ := Aside0.mk (Kd.C_below (by repeat (first | exact HKy.out | (with_reducible refine Kd.C_alloc ?_ _) | (with_reducible refine Kd.C_drewN ?_ _) | (with_reducible refine Kd.C_drew ?_))) hb); have n2_ := Aside0.mk (Kd.C_below (by repeat (first | exact HKu.out | (with_reducible refine Kd.C_alloc ?_ _) | (with_reducible refine Kd.C_drewN ?_ _) | (with_reducible refine Kd.C_drew ?_))) hb); have n3_ := Aside0.mk (Kd.C_below (by repeat (first | exact HKyy.out | (with_reducible refine Kd.C_alloc ?_ _) | (with_reducible refine Kd.C_drewN ?_ _) | (with_reducible refine Kd.C_drew ?_))) hb); have nb_ := Aside0.mk (below_step (by repeat (first | (with_reducible first | exact HB.out | apply below_alloc | apply pw_below_drewN | apply below_drew1) | exact HB.out)) hb); clear HKx; clear HKy; clear HKu; clear HKyy; clear HB; have HKx := n0_; have HKy := n1_; have HKu := n2_; have HKyy := n3_; have HB := nb_; clear n0_ n1_ n2_ n3_ nb_ hb) | ((with_reducible refine gate_callee (f := 33) rfl ?_); refine goesL_ (some 71) rfl rfl Try.func33 (by kernel_rfl) rfl #[.slice A2 l2.length c2, .bool false] rfl (by (try simp only [List.map_toArray, List.map_cons, List.map_nil]); first | done | rfl | (simp only [List.length_drop, List.length_take]; rfl) | (go_simp; done) | (simp; done) | (simp; rfl)) ?_; (with_reducible refine (laws_toInt64SF.calls k _ _ l2 false L2 _ ?side1 ?side2 hfull2).mono ?_); (case side1 => repeat (first | exact (Kd.C_below HR2.out (by repeat (first | (with_reducible first | exact HB.out | apply below_alloc | apply pw_below_drewN | apply below_drew1) | exact HB.out))) | (with_reducible refine Kd.C_alloc ?_ _) | (with_reducible refine Kd.C_drewN ?_ _) | (with_reducible refine Kd.C_drew ?_))); (case side2 => exact HC2.out); rintro e wuu ⟨Auu, cuu, rfl, hR, _, hb⟩; have HKuu := Aside0.mk (Kd.R_reads' hR).2.2; have HLuu := Aside0.mk (Kd.R_reads' hR).2.1; clear hR; refine ⟨_, rfl, ?_⟩; have n0_ := Aside0.mk (Kd.C_below (by repeat (first | exact HKx.out | (with_reducible refine Kd.C_alloc ?_ _) | (with_reducible refine Kd.C_drewN ?_ _) | (with_reducible refine Kd.C_drew ?_))) hb); have n1_ := Aside0.mk (Kd.C_below (by repeat (first | exact HKy.out | (with_reducible refine Kd.C_alloc ?_ _) | (with_reducible refine Kd.C_drewN ?_ _) | (with_reducible refine Kd.C_drew ?_))) hb); have n2_ := Aside0.mk (Kd.C_below (by repeat (first | exact HKu.out | (with_reducible refine Kd.C_alloc ?_ _) | (with_reducible refine Kd.C_drewN ?_ _) | (with_reducible refine Kd.C_drew ?_))) hb); have nb_ := Aside0.mk (below_step (by repeat (first | (with_reducible first | exact HB.out | apply below_alloc | apply pw_below_drewN | apply below_drew1) | exact HB.out)) hb); clear HKx; clear HKy; clear HKu; clear HB; have HKx := n0_; have HKy := n1_; have HKu := n2_; have HB := nb_; clear n0_ n1_ n2_ nb_ hb) | ((with_reducible refine gate_callee (f := 35) rfl ?_); refine goesL_ (some 72) rfl rfl Try.func35 (by kernel_rfl) rfl #[.slice Au l2.length cu, .slice Auu l2.length cuu] rfl (by (try simp only [List.map_toArray, List.map_cons, List.map_nil]); first | done | rfl | (simp only [List.length_drop, List.length_take]; rfl) | (go_simp; done) | (simp; done) | (simp; rfl)) ?_; (with_reducible refine (laws_intactInt64SF.calls k l2.length _ _ L2 _ _ L2 room2 _ ?side1 ?side2 ?side3 ?side4 hroom2 hn2 hz2 hy2 hLr2 hLr2 heq2).mono ?_); (case side1 => repeat (first | exact HKu.out | (with_reducible refine Kd.C_alloc ?_ _) | (with_reducible refine Kd.C_drewN ?_ _) | (with_reducible refine Kd.C_drew ?_))); (case side2 => exact HLu.out); (case side3 => repeat (first | exact HKuu.out | (with_reducible refine Kd.C_alloc ?_ _) | (with_reducible refine Kd.C_drewN ?_ _) | (with_reducible refine Kd.C_drew ?_))); (case side4 => exact HLuu.out); rintro e wi2 ⟨rfl, hb⟩; refine ⟨_, rfl, ?_⟩; have n0_ := Aside0.mk (Kd.C_below (by repeat (first | exact HKx.out | (with_reducible refine Kd.C_alloc ?_ _) | (with_reducible refine Kd.C_drewN ?_ _) | (with_reducible refine Kd.C_drew ?_))) hb); have n1_ := Aside0.mk (Kd.C_below (by repeat (first | exact HKy.out | (with_reducible refine Kd.C_alloc ?_ _) | (with_reducible refine Kd.C_drewN ?_ _) | (with_reducible refine Kd.C_drew ?_))) hb); have n2_ := Aside0.mk (Kd.C_below (by repeat (first | exact HKu.out | (with_reducible refine Kd.C_alloc ?_ _) | (with_reducible refine Kd.C_drewN ?_ _) | (with_reducible refine Kd.C_drew ?_))) hb); have n3_ := Aside0.mk (Kd.C_below (by repeat (first | exact HKuu.out | (with_reducible refine Kd.C_alloc ?_ _) | (with_reducible refine Kd.C_drewN ?_ _) | (with_reducible refine Kd.C_drew ?_))) hb); have nb_ := Aside0.mk (below_step (by repeat (first | (with_reducible first | exact HB.out | apply below_alloc | apply pw_below_drewN | apply below_drew1) | exact HB.out)) hb); clear HKx; clear HKy; clear HKu; clear HKuu; clear HB; have HKx := n0_; have HKy := n1_; have HKu := n2_; have HKuu := n3_; have HB := nb_; clear n0_ n1_ n2_ n3_ nb_ hb) | ((with_reducible refine gate_callee (f := 16) rfl ?_); refine goesL_ (some 76) rfl rfl Try.func16 (by kernel_rfl) rfl #[.slice A0 l0.length c0, .bool true] rfl (by (try simp only [List.map_toArray, List.map_cons, List.map_nil]); first | done | rfl | (simp only [List.length_drop, List.length_take]; rfl) | (go_simp; done) | (simp; done) | (simp; rfl)) ?_; (with_reducible refine (laws_toLayerS.calls k _ _ l0 true M _ ?side1 ?side2 hbare0).mono ?_); (case side1 => repeat (first | exact (Kd.C_below HR0.out (by repeat (first | (with_reducible first | exact HB.out | apply below_alloc | apply pw_below_drewN | apply below_drew1) | exact HB.out))) | (with_reducible refine Kd.C_alloc ?_ _) | (with_reducible refine Kd.C_drewN ?_ _) | (with_reducible refine Kd.C_drew ?_))); (case side2 => exact HC0.out); rintro e wf ⟨vf, rfl, hR, hb⟩; obtain ⟨Af, cf, ef⟩ := Kd.R_slice hR; subst ef; have HKf := Aside0.mk (Kd.R_reads' hR).2.2; have HLf := Aside0.mk (Kd.R_reads' hR).2.1; clear hR; refine ⟨_, rfl, ?_⟩; have nb_ := Aside0.mk (below_step (by repeat (first | (with_reducible first | exact HB.out | apply below_alloc | apply pw_below_drewN | apply below_drew1) | exact HB.out)) hb); clear HB; have HB := nb_; clear nb_ hb) | ((with_reducible refine gate_callee (f := 33) rfl ?_); refine goesL_ (some 78) rfl rfl Try.func33 (by kernel_rfl) rfl #[.slice A1 l1.length c1, .bool true] rfl (by (try simp only [List.map_toArray, List.map_cons, List.map_nil]); first | done | rfl | (simp only [List.length_drop, List.length_take]; rfl) | (go_simp; done) | (simp; done) | (simp; rfl)) ?_; (with_reducible refine (laws_toInt64S.calls k _ _ l1 true l1 _ ?side1 ?side2 hbare1).mono ?_); (case side1 => repeat (first | exact (Kd.C_below HR1.out (by repeat (first | (with_reducible first | exact HB.out | apply below_alloc | apply pw_below_drewN | apply below_drew1) | exact HB.out))) | (with_reducible refine Kd.C_alloc ?_ _) | (with_reducible refine Kd.C_drewN ?_ _) | (with_reducible refine Kd.C_drew ?_))); (case side2 => exact HC1.out); rintro e wg ⟨vg, rfl, hR, hb⟩; obtain ⟨Ag, cg, eg⟩ := Kd.R_slice hR; subst eg; have HKg := Aside0.mk (Kd.R_reads' hR).2.2; have HLg := Aside0.mk (Kd.R_reads' hR).2.1; clear hR; refine ⟨_, rfl, ?_⟩; have n0_ := Aside0.mk (Kd.C_below (by repeat (first | exact HKf.out | (with_reducible refine Kd.C_alloc ?_ _) | (with_reducible refine Kd.C_drewN ?_ _) | (with_reducible refine Kd.C_drew ?_))) hb); have nb_ := Aside0.mk (below_step (by repeat (first | (with_reducible first | exact HB.out | apply below_alloc | apply pw_below_drewN | apply below_drew1) | exact HB.out)) hb); clear HKf; clear HB; have HKf := n0_; have HB := nb_; clear n0_ nb_ hb) | ((with_reducible refine gate_callee (f := 33) rfl ?_); refine goesL_ (some 80) rfl rfl Try.func33 (by kernel_rfl) rfl #[.slice A2 l2.length c2, .bool true] rfl (by (try simp only [List.map_toArray, List.map_cons, List.map_nil]); first | done | rfl | (simp only [List.length_drop, List.length_take]; rfl) | (go_simp; done) | (simp; done) | (simp; rfl)) ?_; (with_reducible refine (laws_toInt64S.calls k _ _ l2 true l2 _ ?side1 ?side2 hbare2).mono ?_); (case side1 => repeat (first | exact (Kd.C_below HR2.out (by repeat (first | (with_reducible first | exact HB.out | apply below_alloc | apply pw_below_drewN | apply below_drew1) | exact HB.out))) | (with_reducible refine Kd.C_alloc ?_ _) | (with_reducible refine Kd.C_drewN ?_ _) | (with_reducible refine Kd.C_drew ?_))); (case side2 => exact HC2.out); rintro e wh ⟨vh, rfl, hR, hb⟩; obtain ⟨Ah, ch, eh⟩ := Kd.R_slice hR; subst eh; have HKh := Aside0.mk (Kd.R_reads' hR).2.2; have HLh := Aside0.mk (Kd.R_reads' hR).2.1; clear hR; refine ⟨_, rfl, ?_⟩; have n0_ := Aside0.mk (Kd.C_below (by repeat (first | exact HKf.out | (with_reducible refine Kd.C_alloc ?_ _) | (with_reducible refine Kd.C_drewN ?_ _) | (with_reducible refine Kd.C_drew ?_))) hb); have n1_ := Aside0.mk (Kd.C_below (by repeat (first | exact HKg.out | (with_reducible refine Kd.C_alloc ?_ _) | (with_reducible refine Kd.C_drewN ?_ _) | (with_reducible refine Kd.C_drew ?_))) hb); have nb_ := Aside0.mk (below_step (by repeat (first | (with_reducible first | exact HB.out | apply below_alloc | apply pw_below_drewN | apply below_drew1) | exact HB.out)) hb); clear HKf; clear HKg; clear HB; have HKf := n0_; have HKg := n1_; have HB := nb_; clear n0_ n1_ nb_ hb) | ((with_reducible refine gate_callee (f := 34) rfl ?_); refine goesL_ (some 81) rfl rfl Try.func34 (by kernel_rfl) rfl #[.slice Af M.length cf, .slice Ag l1.length cg, .slice Ah l2.length ch] rfl (by (try simp only [List.map_toArray, List.map_cons, List.map_nil]); first | done | rfl | (simp only [List.length_drop, List.length_take]; rfl) | (go_simp; done) | (simp; done) | (simp; rfl)) ?_; (with_reducible refine (impl_FirstGust.calls k _ _ M _ _ l1 _ _ l2 r t _ ?side1 ?side2 ?side3 ?side4 ?side5 ?side6 himpl).mono ?_); (case side1 => repeat (first | exact HKf.out | (with_reducible refine Kd.C_alloc ?_ _) | (with_reducible refine Kd.C_drewN ?_ _) | (with_reducible refine Kd.C_drew ?_))); (case side2 => exact HLf.out); (case side3 => repeat (first | exact HKg.out | (with_reducible refine Kd.C_alloc ?_ _) | (with_reducible refine Kd.C_drewN ?_ _) | (with_reducible refine Kd.C_drew ?_))); (case side4 => exact HLg.out); (case side5 => repeat (first | exact HKh.out | (with_reducible refine Kd.C_alloc ?_ _) | (with_reducible refine Kd.C_drewN ?_ _) | (with_reducible refine Kd.C_drew ?_))); (case side6 => exact HLh.out); rintro e wc ⟨rfl, hb⟩; refine ⟨_, rfl, ?_⟩; have n0_ := Aside0.mk (Kd.C_below (by repeat (first | exact HKf.out | (with_reducible refine Kd.C_alloc ?_ _) | (with_reducible refine Kd.C_drewN ?_ _) | (with_reducible refine Kd.C_drew ?_))) hb); have n1_ := Aside0.mk (Kd.C_below (by repeat (first | exact HKg.out | (with_reducible refine Kd.C_alloc ?_ _) | (with_reducible refine Kd.C_drewN ?_ _) | (with_reducible refine Kd.C_drew ?_))) hb); have n2_ := Aside0.mk (Kd.C_below (by repeat (first | exact HKh.out | (with_reducible refine Kd.C_alloc ?_ _) | (with_reducible refine Kd.C_drewN ?_ _) | (with_reducible refine Kd.C_drew ?_))) hb); have nb_ := Aside0.mk (below_step (by repeat (first | (with_reducible first | exact HB.out | apply below_alloc | apply pw_below_drewN | apply below_drew1) | exact HB.out)) hb); clear HKf; clear HKg; clear HKh; clear HB; have HKf := n0_; have HKg := n1_; have HKh := n2_; have HB := nb_; clear n0_ n1_ n2_ nb_ hb))
  go_ret
  exact ⟨by first | rfl | (simp [errW_none, errW_some] <;> rfl) | (simp [*, errW_none, errW_some] <;> rfl), by repeat (first | (with_reducible first | exact HB.out | apply below_alloc | apply pw_below_drewN | apply below_drew1) | exact HB.out)⟩
set_option maxHeartbeats 8000000 in
set_option maxRecDepth 100000 in
theorem big (A0 : Option Addr) (c0 : Nat) (l0 : List S64) (A1 : Option Addr) (c1 : Nat) (l1 : List Int) (A2 : Option Addr) (c2 : Nat) (l2 : List Int) (s1 s2 z : Int) (w : World) (hr0 : Kd.C k64 w A0 l0.length l0) (hc0 : l0.length ≤ c0) (hr1 : Kd.C (Kd.int .i64) w A1 l1.length l1) (hc1 : l1.length ≤ c1) (hr2 : Kd.C (Kd.int .i64) w A2 l2.length l2) (hc2 : l2.length ≤ c2) (hs1 : IntKind.i64.wrap (1000000 - (l1.length : Int)) = s1) (hs2 : IntKind.i64.wrap (s1 - (l2.length : Int)) = s2) (hsz : laws_szLayerS.f l0 s2 = some z) (hz : z < 0) :
    Calls Try.prog 9 #[.slice A0 l0.length c0, .slice A1 l1.length c1, .slice A2 l2.length c2] w fun e w' => e = .returned (.bool true) ∧ Below w.heap.size w w' := by
  have HR0 := Aside0.mk hr0
  have HC0 := Aside0.mk hc0
  have HR1 := Aside0.mk hr1
  have HC1 := Aside0.mk hc1
  have HR2 := Aside0.mk hr2
  have HC2 := Aside0.mk hc2
  have HB := Aside0.mk (Below.refl w.heap.size w)
  have c2b0 : decide (z < 0) = true := decide_eq_true hz
  clear hr0 hc0 hr1 hc1 hr2 hc2 hz
  go_enter Try.func9, Try.ntmps9
  go_wp2_with (first | ((with_reducible refine gate_callee (f := 14) rfl ?_); refine goesL_ (some 25) rfl rfl Try.func14 (by kernel_rfl) rfl #[.slice A0 l0.length c0, .int .i64 s2] rfl (by (try simp only [List.map_toArray, List.map_cons, List.map_nil]); first | done | rfl | (simp only [List.length_drop, List.length_take]; rfl) | (go_simp; done) | (simp; done) | (simp; rfl)) ?_; (with_reducible refine (laws_szLayerS.calls _ _ l0 s2 z _ ?side1 ?side2 hsz).mono ?_); (case side1 => repeat (first | exact (Kd.C_below HR0.out (by repeat (first | (with_reducible first | exact HB.out | apply below_alloc | apply pw_below_drewN | apply below_drew1) | exact HB.out))) | (with_reducible refine Kd.C_alloc ?_ _) | (with_reducible refine Kd.C_drewN ?_ _) | (with_reducible refine Kd.C_drew ?_))); (case side2 => exact HC0.out); rintro e wo ⟨rfl, hd⟩; have hb := drawn_below hd; clear hd; refine ⟨_, rfl, ?_⟩; have nb_ := Aside0.mk (below_step (by repeat (first | (with_reducible first | exact HB.out | apply below_alloc | apply pw_below_drewN | apply below_drew1) | exact HB.out)) hb); clear HB; have HB := nb_; clear nb_ hb))
  go_ret
  exact ⟨by first | rfl | (simp [errW_none, errW_some] <;> rfl) | (simp [*, errW_none, errW_some] <;> rfl), by repeat (first | (with_reducible first | exact HB.out | apply below_alloc | apply pw_below_drewN | apply below_drew1) | exact HB.out)⟩
theorem walk (W : World) (a0 : Option Addr) (len0 cap0 : Nat) (z0 : List (Int × Int × Int)) (w0 : (a0 = none ∧ len0 = 0 ∧ cap0 = 0 ∧ z0 = []) ∨ ∃ x, a0 = some x ∧ len0 ≤ cap0 ∧ cap0 ≤ maxLen ∧ z0.length = len0 ∧ ∀ i p, z0[i]? = some p → (W.cell? (x.add (i * 3 + 0)) = some (.int .i64 (p.1)) ∧ W.cell? (x.add (i * 3 + 1)) = some (.int .i64 (p.2.1)) ∧ W.cell? (x.add (i * 3 + 2)) = some (.int .i64 (p.2.2)) ∧ (Lit.int .i64 p.1).wf = true ∧ (Lit.int .i64 p.2.1).wf = true ∧ (Lit.int .i64 p.2.2).wf = true)) (y0 : len0 * 24 ≤ 140737488351232) (a1 : Option Addr) (len1 cap1 : Nat) (z1 : List Int) (w1 : (a1 = none ∧ len1 = 0 ∧ cap1 = 0 ∧ z1 = []) ∨ ∃ x, a1 = some x ∧ len1 ≤ cap1 ∧ cap1 ≤ maxLen ∧ z1.length = cap1 ∧ (∀ i, i < z1.length → W.cell? (x.add i) = some (.int .i64 (z1.getD i 0))) ∧ ∀ n ∈ z1, (Lit.int .i64 n).wf = true) (y1 : len1 * 8 ≤ 140737488351232) (a2 : Option Addr) (len2 cap2 : Nat) (z2 : List Int) (w2 : (a2 = none ∧ len2 = 0 ∧ cap2 = 0 ∧ z2 = []) ∨ ∃ x, a2 = some x ∧ len2 ≤ cap2 ∧ cap2 ≤ maxLen ∧ z2.length = cap2 ∧ (∀ i, i < z2.length → W.cell? (x.add i) = some (.int .i64 (z2.getD i 0))) ∧ ∀ n ∈ z2, (Lit.int .i64 n).wf = true) (y2 : len2 * 8 ≤ 140737488351232) :
    Calls Try.prog 9 #[.slice a0 len0 cap0, .slice a1 len1 cap1, .slice a2 len2 cap2] W fun e w' => e = .returned (.bool true) ∧ Below W.heap.size W w' := by
  obtain ⟨l0, rfl, hr0, hc0, hm0⟩ := ofRow3 w0
  obtain ⟨l1, rfl, hq1, hm1, hw1, hc1⟩ := ReadsInt.ofRowC w1
  obtain ⟨l2, rfl, hq2, hm2, hw2, hc2⟩ := ReadsInt.ofRowC w2
  have hr1 := Kd.C_of_reads (d := (0 : Int)) (h1 := fun _ => rfl) hq1
  have hr2 := Kd.C_of_reads (d := (0 : Int)) (h1 := fun _ => rfl) hq2
  have hs1 : IntKind.i64.wrap (1000000 - (l1.length : Int)) = 1000000 - (l1.length : Int) := (i64_w _).trans (w64 (by omega) (by omega))
  have hs2 : IntKind.i64.wrap ((1000000 - (l1.length : Int)) - (l2.length : Int)) = (1000000 - (l1.length : Int)) - (l2.length : Int) := (i64_w _).trans (w64 (by omega) (by omega))
  obtain ⟨z, hsz, hzz⟩ : ∃ z, laws_szLayerS.f l0 ((1000000 - (l1.length : Int)) - (l2.length : Int)) = some z ∧ (¬ z < 0 → l0.length ≤ 1000000 ∧ l1.length ≤ 1000000 ∧ l2.length ≤ 1000000) := by
    unfold laws_szLayerS.f
    rw [w64 (n := (1000000 - (l1.length : Int)) - (l2.length : Int) - (l0.length : Int)) (by omega) (by omega)]
    split
    · exact ⟨_, rfl, by omega⟩
    · exact ⟨_, rfl, by omega⟩
  by_cases g : z < 0
  · exact big a0 cap0 l0 a1 cap1 l1 a2 cap2 l2 _ _ z W hr0 hc0 hr1 hc1 hr2 hc2 hs1 hs2 hsz g
  obtain ⟨n0, n1, n2⟩ := hzz g
  obtain ⟨room0, er0, p0, q0⟩ := room_some l0.length (by omega)
  obtain ⟨room1, er1, p1, q1⟩ := room_some l1.length (by omega)
  obtain ⟨room2, er2, p2, q2⟩ := room_some l2.length (by omega)
  obtain ⟨L0, ⟨K1, f0⟩, hF0, hT0⟩ := toLayerSF_ev l0 (by omega) er0 p0 q0
  obtain ⟨L1, ⟨K2, f1⟩, hF1, hT1⟩ := toInt64SF_ev l1 (by omega) er1 p1 q1
  obtain ⟨L2, ⟨K3, f2⟩, hF2, hT2⟩ := toInt64SF_ev l2 (by omega) er2 p2 q2
  obtain ⟨⟨r, t⟩, ⟨K4, hi⟩, ⟨K5, hs⟩⟩ := FirstGust_both (l0.map cvL) l1 l2 (by simp; omega) (by omega) (by omega)
  obtain ⟨K6, b0⟩ := toLayerS_bare l0 (by omega)
  obtain ⟨K7, b1⟩ := toInt64S_bare l1 (by omega)
  obtain ⟨K8, b2⟩ := toInt64S_bare l2 (by omega)
  obtain ⟨K9, e0⟩ := eqLayerS_ev L0 (by omega)
  obtain ⟨K10, e1⟩ := eqInt64S_ev L1 (by omega)
  obtain ⟨K11, e2⟩ := eqInt64S_ev L2 (by omega)
  exact go (K1 + K2 + K3 + K4 + K5 + K6 + K7 + K8 + K9 + K10 + K11) a0 cap0 l0 a1 cap1 l1 a2 cap2 l2 (l0.map cvL) L0 L1 L2 _ _ z r t room0 room1 room2 W hr0 hc0 hr1 hc1 hr2 hc2 hs1 hs2 hsz g (by simp)
    (f0 _ (by omega)) hT0 (by omega) (by omega) er0 p0 (by omega) (by omega) (b0 _ (by omega)) (e0 _ (by omega))
    (f1 _ (by omega)) hT1 (by omega) (by omega) er1 p1 (by omega) (by omega) (b1 _ (by omega)) (e1 _ (by omega))
    (f2 _ (by omega)) hT2 (by omega) (by omega) er2 p2 (by omega) (by omega) (b2 _ (by omega)) (e2 _ (by omega))
    (hs _ (by omega)) (hi _ (by omega))


end Go.Proofs.Ytidibjmckgbpbaa.GoFnExactFirstGust
