/- A profile that is widened has the wind, and changes no other layer; what FirstGust finds is not in its layer, and nothing before it; no condition. -/
import Derived.Test.YtidibjmckgbpbaaMa
import Derived.Test.YtidibjmckgbpbaaQFnGustsx
namespace Go.Proofs.Ytidibjmckgbpbaa.PureFnGusts
open Go.RowKit Go.Proofs.Ytidibjmckgbpbaa.QFnGusts Go.Proofs.YtidibjmckgbpbaaW.PrintWords Go.Proofs.YtidibjmckgbpbaaW.PrintLast Go.Proofs.Ytidibjmckgbpbaa.Ma
set_option linter.unusedVariables false
set_option linter.unusedSimpArgs false

/-! ### division, ranges -/
theorem in_eq (a b c : Int) : spec_l01In.f a b c = some (decide (b ≤ a ∧ a ≤ c)) := by
  unfold spec_l01In.f
  by_cases h : b ≤ a <;> simp [h]
theorem within_eq (a b c : Int) : impl_within.f a b c = some (decide (b ≤ a ∧ a ≤ c)) := by
  unfold impl_within.f
  by_cases h : b ≤ a <;> simp [h]
theorem tdiv_floor {a b : Int} (hb : 0 < b) : (Int.tmod a b < 0 → Int.tdiv a b - 1 = a / b) ∧ (¬ Int.tmod a b < 0 → Int.tdiv a b = a / b) := by
  have h1 := Int.tdiv_eq_ediv (a := a) (b := b)
  have h2 := Int.tmod_eq_emod (a := a) (b := b)
  have h3 := Int.emod_nonneg a (show b ≠ 0 by omega)
  have h4 := Int.emod_lt_of_pos a hb
  by_cases h : 0 ≤ a ∨ b ∣ a
  · rw [if_pos h] at h1 h2
    omega
  · rw [if_neg h] at h1 h2
    rw [Int.sign_eq_one_of_pos hb] at h1
    omega
theorem ediv_small {a b : Int} (hb : 0 < b) (h : -4611686018427387904 ≤ a) (h' : a ≤ 4611686018427387904) : -4611686018427387904 ≤ a / b ∧ a / b ≤ 4611686018427387904 := by
  have h1 : -4611686018427387904 * b ≤ a := by
    have := Int.mul_le_mul_of_nonneg_left (show 1 ≤ b by omega) (show (0 : Int) ≤ 4611686018427387904 by omega); omega
  have h2 : a < (4611686018427387904 + 1) * b := by
    have := Int.mul_le_mul_of_nonneg_left (show 1 ≤ b by omega) (show (0 : Int) ≤ 4611686018427387905 by omega); omega
  have h3 := (Int.le_ediv_iff_mul_le hb).2 h1
  have h4 := (Int.ediv_lt_iff_lt_mul hb).2 h2
  omega
/-! ### profiles -/
def layB (x : S55) : Bool := decide (1 ≤ x.f0 ∧ x.f0 ≤ 1000000) && (decide (-50000 ≤ x.f1 ∧ x.f1 ≤ 50000) && decide (x.f1 ≤ x.f2 ∧ x.f2 ≤ 50000))
def profL : Option S55 → List S55 → Bool
  | _, [] => true
  | none, x :: R => layB x && profL (some x) R
  | some q, x :: R => layB x && (decide (q.f0 < x.f0) && profL (some x) R)
def profB (m : List S55) : Bool := decide (1 ≤ m.length ∧ m.length ≤ 6) && profL none m
def prevAt (l : List S55) (i : Nat) : Option S55 := if i = 0 then none else some (rdOf z55 l ((i : Int) - 1))
theorem prev_next {l R : List S55} {i : Nat} {c : S55} (h : l.drop i = c :: R) : prevAt l (i + 1) = some c := by
  obtain ⟨h1, h2, h3⟩ := rdOf_drop (d := z55) h
  unfold prevAt
  rw [if_neg (by omega), show ((i + 1 : Nat) : Int) - 1 = (i : Int) by omega, h2]
theorem spec_IsProfile_l0 (l : List S55) (hl : l.length ≤ 4611686018427387904) : ∀ (R : List S55) (i : Nat), l.drop i = R → Ev (fun k => spec_IsProfile.l0 k l i) (profL (prevAt l i) R && decide (1 ≤ l.length ∧ l.length ≤ 6)) := by
  intro R
  induction R with
  | nil =>
    intro i h
    have := drop_nil h
    refine Ev.step (fun k => spec_IsProfile.l0.eq_2 ..) (ev_neg (by omega) (ev_bind0 (in_eq ..) (ev_ret ?_)))
    have e : profL (prevAt l i) [] = true := by unfold profL; rfl
    rw [e, Bool.true_and]
    exact decide_eq_decide.2 (by omega)
  | cons c R ih =>
    intro i h
    obtain ⟨h1, h2, h3⟩ := rdOf_drop (d := z55) h
    have h2' : rd_T55 l (i : Int) = c := h2
    refine Ev.step (fun k => spec_IsProfile.l0.eq_2 ..) (ev_pos (by omega) (ev_pos (by omega) ?_))
    rw [h2', w64 (n := (i : Int) + 1) (by omega) (by omega)]
    have hn := ih (i + 1) h3
    rw [prev_next h] at hn
    refine ev_bind0 (in_eq ..) ?_
    by_cases a : 1 ≤ c.f0 ∧ c.f0 ≤ 1000000
    · refine ev_pos (by simpa using a) (ev_bind0 (in_eq ..) ?_)
      by_cases b : -50000 ≤ c.f1 ∧ c.f1 ≤ 50000
      · refine ev_pos (by simpa using b) (ev_bind0 (in_eq ..) ?_)
        by_cases d : c.f1 ≤ c.f2 ∧ c.f2 ≤ 50000
        · refine ev_pos (by simpa using d) ?_
          have hc : layB c = true := by unfold layB; simp [a, b, d]
          by_cases g : (i : Int) > 0
          · refine ev_pos g ?_
            rw [w64 (n := (i : Int) - 1) (by omega) (by omega)]
            refine ev_pos (by omega) (ev_pos (by omega) ?_)
            have hp : prevAt l i = some (rdOf z55 l ((i : Int) - 1)) := by unfold prevAt; rw [if_neg (by omega)]
            rw [hp]
            by_cases u : (rd_T55 l ((i : Int) - 1)).f0 ≥ c.f0
            · refine ev_pos u (ev_ret ?_)
              have u' : ¬ (rdOf z55 l ((i : Int) - 1)).f0 < c.f0 := by
                have : rd_T55 l ((i : Int) - 1) = rdOf z55 l ((i : Int) - 1) := rfl
                rw [← this]; omega
              simp [profL, u']
            · refine ev_neg u ?_
              have u' : (rdOf z55 l ((i : Int) - 1)).f0 < c.f0 := by
                have : rd_T55 l ((i : Int) - 1) = rdOf z55 l ((i : Int) - 1) := rfl
                rw [← this]; omega
              have e : profL (some (rdOf z55 l ((i : Int) - 1))) (c :: R) = profL (some c) R := by simp [profL, hc, u']
              rw [e]; exact hn
          · refine ev_neg g ?_
            have hp : prevAt l i = none := by unfold prevAt; rw [if_pos (by omega)]
            have e : profL none (c :: R) = profL (some c) R := by simp [profL, hc]
            rw [hp, e]; exact hn
        · refine ev_neg (by simpa using d) (ev_ret ?_)
          have hc : layB c = false := by unfold layB; simp [d]
          cases prevAt l i <;> simp [profL, hc]
      · refine ev_neg (by simpa using b) (ev_ret ?_)
        have hc : layB c = false := by unfold layB; simp [b]
        cases prevAt l i <;> simp [profL, hc]
    · refine ev_neg (by simpa using a) (ev_ret ?_)
      have hc : layB c = false := by unfold layB; simp [a]
      cases prevAt l i <;> simp [profL, hc]
theorem spec_IsProfile_ev (l : List S55) (hl : l.length ≤ 4611686018427387904) : Ev (fun k => spec_IsProfile.f k l) (profB l) := by
  have h := spec_IsProfile_l0 l hl l 0 rfl
  have e : profB l = (profL (prevAt l 0) l && decide (1 ≤ l.length ∧ l.length ≤ 6)) := by unfold profB prevAt; rw [if_pos rfl, Bool.and_comm]
  rw [e]; exact h
theorem isSide_eq (n : Int) : impl_isSide.f n = some (decide (-50000 ≤ n ∧ n ≤ 50000)) := by unfold impl_isSide.f; rw [within_eq]; rfl
theorem areWinds_eq (a b : Int) : impl_areWinds.f a b = some (decide (-50000 ≤ a ∧ a ≤ 50000) && decide (a ≤ b ∧ b ≤ 50000)) := by
  unfold impl_areWinds.f
  rw [isSide_eq, isSide_eq]
  simp only [Option.bind_some]
  by_cases h : -50000 ≤ a ∧ a ≤ 50000
  · rw [if_pos (by simpa using h)]
    by_cases g : -50000 ≤ b ∧ b ≤ 50000
    · rw [if_pos (by simpa using g)]
      simp [h]; omega
    · rw [if_neg (by simpa using g)]
      simp [h]; omega
  · rw [if_neg (by simpa using h)]
    simp [h]
theorem impl_IsProfile_l0 (l : List S55) (hl : l.length ≤ 4611686018427387904) : ∀ (R : List S55) (i : Nat), l.drop i = R → Ev (fun k => impl_IsProfile.l0 k l l (l.length : Int) i) (profL (prevAt l i) R) := by
  intro R
  induction R with
  | nil =>
    intro i h
    have := drop_nil h
    refine Ev.step (fun k => impl_IsProfile.l0.eq_2 ..) (ev_neg (by omega) (ev_ret ?_))
    unfold profL; rfl
  | cons c R ih =>
    intro i h
    obtain ⟨h1, h2, h3⟩ := rdOf_drop (d := z55) h
    have h2' : rd_T55 l (i : Int) = c := h2
    refine Ev.step (fun k => impl_IsProfile.l0.eq_2 ..) (ev_pos (by omega) (ev_pos (by omega) (ev_pos (by omega) ?_)))
    rw [h2', w64 (n := (i : Int) + 1) (by omega) (by omega)]
    have hn := ih (i + 1) h3
    rw [prev_next h] at hn
    refine ev_bind0 (within_eq ..) ?_
    by_cases a : 1 ≤ c.f0 ∧ c.f0 ≤ 1000000
    · refine ev_pos (by simpa using a) (ev_bind0 (areWinds_eq ..) ?_)
      by_cases b : (decide (-50000 ≤ c.f1 ∧ c.f1 ≤ 50000) && decide (c.f1 ≤ c.f2 ∧ c.f2 ≤ 50000)) = true
      · refine ev_pos b ?_
        have hc : layB c = true := by unfold layB; rw [b]; simp [a]
        by_cases g : (i : Int) > 0
        · refine ev_pos g ?_
          rw [w64 (n := (i : Int) - 1) (by omega) (by omega)]
          refine ev_pos (by omega) (ev_pos (by omega) ?_)
          have hp : prevAt l i = some (rdOf z55 l ((i : Int) - 1)) := by unfold prevAt; rw [if_neg (by omega)]
          rw [hp]
          by_cases u : (rd_T55 l ((i : Int) - 1)).f0 ≥ c.f0
          · refine ev_pos u (ev_ret ?_)
            have u' : ¬ (rdOf z55 l ((i : Int) - 1)).f0 < c.f0 := by
              have : rd_T55 l ((i : Int) - 1) = rdOf z55 l ((i : Int) - 1) := rfl
              rw [← this]; omega
            simp [profL, u']
          · refine ev_neg u ?_
            have u' : (rdOf z55 l ((i : Int) - 1)).f0 < c.f0 := by
              have : rd_T55 l ((i : Int) - 1) = rdOf z55 l ((i : Int) - 1) := rfl
              rw [← this]; omega
            have e : profL (some (rdOf z55 l ((i : Int) - 1))) (c :: R) = profL (some c) R := by simp [profL, hc, u']
            rw [e]; exact hn
        · refine ev_neg g ?_
          have hp : prevAt l i = none := by unfold prevAt; rw [if_pos (by omega)]
          have e : profL none (c :: R) = profL (some c) R := by simp [profL, hc]
          rw [hp, e]; exact hn
      · refine ev_neg b (ev_ret ?_)
        have hc : layB c = false := by unfold layB; simp only [Bool.not_eq_true] at b; rw [b]; simp
        cases prevAt l i <;> simp [profL, hc]
    · refine ev_neg (by simpa using a) (ev_ret ?_)
      have hc : layB c = false := by unfold layB; simp [a]
      cases prevAt l i <;> simp [profL, hc]
theorem impl_IsProfile_ev (l : List S55) (hl : l.length ≤ 4611686018427387904) : Ev (fun k => impl_IsProfile.f k l) (profB l) := by
  have h := impl_IsProfile_l0 l hl l 0 rfl
  have e0 : prevAt l 0 = none := by unfold prevAt; rw [if_pos rfl]
  rw [e0] at h
  unfold impl_IsProfile.f profB
  by_cases a : (l.length : Int) < 1
  · refine ev_pos a (Ev.step (fun k => impl_IsProfile.j0.eq_2 ..) (ev_pos rfl (ev_ret ?_)))
    simp; omega
  · refine ev_neg a (Ev.step (fun k => impl_IsProfile.j0.eq_2 ..) ?_)
    by_cases b : (l.length : Int) > 6
    · refine ev_pos (by simpa using b) (ev_ret ?_)
      simp; omega
    · refine ev_neg (by simpa using b) ?_
      have e : (decide (1 ≤ l.length ∧ l.length ≤ 6) && profL none l) = profL none l := by
        simp; intro _; omega
      rw [e]; exact h

/-! ### the first gust -/
def findF (h : Int) : List S55 → Nat → Int
  | [], _ => -1
  | c :: R, i => if h ≤ c.f0 then (i : Int) else findF h R (i + 1)
def findM (l : List S55) (h : Int) : Int := findF h l 0
theorem findF_lt (h : Int) : ∀ (R : List S55) (i : Nat), findF h R i < (i + R.length : Nat) ∧ -1 ≤ findF h R i
  | [], i => by unfold findF; constructor <;> omega
  | c :: R, i => by
    unfold findF
    have := findF_lt h R (i + 1)
    simp only [List.length_cons]
    split
    · omega
    · omega
theorem findM_lt (l : List S55) (h : Int) : findM l h < (l.length : Int) := by have := (findF_lt h l 0).1; unfold findM; omega
theorem impl_layerOf_l0 (l : List S55) (hl : l.length ≤ 4611686018427387904) (h : Int) : ∀ (R : List S55) (i : Nat), l.drop i = R → Ev (fun k => impl_layerOf.l0 k h l (l.length : Int) i) (findF h R i) := by
  intro R
  induction R with
  | nil =>
    intro i e
    have := drop_nil e
    exact Ev.step (fun k => impl_layerOf.l0.eq_2 ..) (ev_neg (by omega) (Ev.now _))
  | cons c R ih =>
    intro i e
    obtain ⟨h1, h2, h3⟩ := rdOf_drop (d := z55) e
    have h2' : rd_T55 l (i : Int) = c := h2
    refine Ev.step (fun k => impl_layerOf.l0.eq_2 ..) (ev_pos (by omega) (ev_pos (by omega) (ev_pos (by omega) ?_)))
    rw [h2', w64 (n := (i : Int) + 1) (by omega) (by omega)]
    unfold findF
    by_cases g : h ≤ c.f0
    · exact ev_pos g (ev_ret (by rw [if_pos g]))
    · rw [if_neg g]; exact ev_neg g (ih (i + 1) h3)
theorem impl_layerOf_ev (l : List S55) (hl : l.length ≤ 4611686018427387904) (h : Int) : Ev (fun k => impl_layerOf.f k l h) (findM l h) := impl_layerOf_l0 l hl h l 0 rfl
theorem spec_l05Find_l0 (l : List S55) (hl : l.length ≤ 4611686018427387904) (h : Int) : ∀ (R : List S55) (i : Nat), l.drop i = R → Ev (fun k => spec_l05Find.l0 k l h i) (findF h R i) := by
  intro R
  induction R with
  | nil =>
    intro i e
    have := drop_nil e
    exact Ev.step (fun k => spec_l05Find.l0.eq_2 ..) (ev_neg (by omega) (Ev.now _))
  | cons c R ih =>
    intro i e
    obtain ⟨h1, h2, h3⟩ := rdOf_drop (d := z55) e
    have h2' : rd_T55 l (i : Int) = c := h2
    refine Ev.step (fun k => spec_l05Find.l0.eq_2 ..) (ev_pos (by omega) (ev_pos (by omega) ?_))
    rw [h2', w64 (n := (i : Int) + 1) (by omega) (by omega)]
    unfold findF
    by_cases g : h ≤ c.f0
    · exact ev_pos g (ev_ret (by rw [if_pos g]))
    · rw [if_neg g]; exact ev_neg (by omega) (ih (i + 1) h3)
theorem spec_l05Find_ev (l : List S55) (hl : l.length ≤ 4611686018427387904) (h : Int) : Ev (fun k => spec_l05Find.f k l h) (findM l h) := spec_l05Find_l0 l hl h l 0 rfl
theorem impl_allWithin_l0 (l : List Int) (hl : l.length ≤ 4611686018427387904) (a b : Int) : ∀ (R : List Int) (i : Nat), l.drop i = R → Ev (fun k => impl_allWithin.l0 k a b l (l.length : Int) i) (decide (∀ n ∈ R, a ≤ n ∧ n ≤ b)) := by
  intro R
  induction R with
  | nil =>
    intro i h
    have := drop_nil h
    exact Ev.step (fun k => impl_allWithin.l0.eq_2 ..) (ev_neg (by omega) (ev_ret (by simp)))
  | cons n R ih =>
    intro i h
    obtain ⟨h1, h2, h3⟩ := rd_drop h
    refine Ev.step (fun k => impl_allWithin.l0.eq_2 ..) (ev_pos (by omega) (ev_pos (by omega) (ev_pos (by omega) ?_)))
    rw [h2, w64 (n := (i : Int) + 1) (by omega) (by omega)]
    refine ev_bind0 (within_eq ..) ?_
    by_cases g : a ≤ n ∧ n ≤ b
    · refine ev_pos (by simpa using g) ?_
      have e : (∀ m ∈ n :: R, a ≤ m ∧ m ≤ b) ↔ ∀ m ∈ R, a ≤ m ∧ m ≤ b := by simp [g]
      rw [decide_eq_decide.2 e]
      exact ih (i + 1) h3
    · exact ev_neg (by simpa using g) (ev_ret (by symm; exact decide_eq_false (fun h => g (h n (by simp)))))
theorem impl_allWithin_ev (l : List Int) (hl : l.length ≤ 4611686018427387904) (a b : Int) : Ev (fun k => impl_allWithin.f k l a b) (decide (∀ n ∈ l, a ≤ n ∧ n ≤ b)) := impl_allWithin_l0 l hl a b l 0 rfl
theorem gust_loop (m : List S55) (x1 x2 : List Int) (hm : m.length ≤ 1000000000) (h1 : x1.length ≤ 1000000000) (he : x1.length = x2.length) : ∀ (R : List Int) (i : Nat), x1.drop i = R →
    ∃ r, Ev (fun k => spec_FirstGust.l1 k m x1 x2 i) r ∧ Ev (fun k => impl_FirstGust.l0 k m x2 x1 (x1.length : Int) i) r := by
  intro R
  induction R with
  | nil =>
    intro i h
    have := drop_nil h
    exact ⟨_, Ev.step (fun k => spec_FirstGust.l1.eq_2 ..) (ev_neg (by omega) (Ev.now _)), Ev.step (fun k => impl_FirstGust.l0.eq_2 ..) (ev_neg (by omega) (Ev.now _))⟩
  | cons c R ih =>
    intro i h
    obtain ⟨g1, g2, g3⟩ := rd_drop h
    have hs := spec_l05Find_ev m (by omega) c
    have hi := impl_layerOf_ev m (by omega) c
    have hlt := findM_lt m c
    obtain ⟨r, e1, e2⟩ := ih (i + 1) g3
    by_cases a : findM m c < 0
    · refine ⟨(0, 4), Ev.step (fun k => spec_FirstGust.l1.eq_2 ..) (ev_pos (by omega) (ev_pos (by omega) ?_)), Ev.step (fun k => impl_FirstGust.l0.eq_2 ..) (ev_pos (by omega) (ev_pos (by omega) (ev_pos (by omega) ?_)))⟩
      · rw [g2]; exact hs.bind (ev_pos a (Ev.now _))
      · rw [g2]; exact hi.bind (ev_pos a (Ev.now _))
    · by_cases b : (rd_T55 m (findM m c)).f1 ≤ rd x2 (i : Int) ∧ rd x2 (i : Int) ≤ (rd_T55 m (findM m c)).f2
      · refine ⟨r, Ev.step (fun k => spec_FirstGust.l1.eq_2 ..) (ev_pos (by omega) (ev_pos (by omega) ?_)), Ev.step (fun k => impl_FirstGust.l0.eq_2 ..) (ev_pos (by omega) (ev_pos (by omega) (ev_pos (by omega) ?_)))⟩
        · rw [g2, w64 (n := (i : Int) + 1) (by omega) (by omega)]
          exact hs.bind (ev_neg a (ev_pos (by omega) (ev_pos (by omega) (ev_pos (by omega) (ev_bind0 (in_eq ..) (ev_pos (by simpa using b) e1))))))
        · rw [g2, w64 (n := (i : Int) + 1) (by omega) (by omega)]
          exact hi.bind (ev_neg a (ev_pos (by omega) (ev_pos (by omega) (ev_pos (by omega) (ev_bind0 (within_eq ..) (ev_pos (by simpa using b) e2))))))
      · refine ⟨((i : Int), 0), Ev.step (fun k => spec_FirstGust.l1.eq_2 ..) (ev_pos (by omega) (ev_pos (by omega) ?_)), Ev.step (fun k => impl_FirstGust.l0.eq_2 ..) (ev_pos (by omega) (ev_pos (by omega) (ev_pos (by omega) ?_)))⟩
        · rw [g2]
          exact hs.bind (ev_neg a (ev_pos (by omega) (ev_pos (by omega) (ev_pos (by omega) (ev_bind0 (in_eq ..) (ev_neg (by simpa using b) (Ev.now _)))))))
        · rw [g2]
          exact hi.bind (ev_neg a (ev_pos (by omega) (ev_pos (by omega) (ev_pos (by omega) (ev_bind0 (within_eq ..) (ev_neg (by simpa using b) (Ev.now _)))))))
theorem gust_check (m : List S55) (x1 x2 : List Int) (h1 : x1.length ≤ 1000000000) (he : x1.length = x2.length) {r : Int × Int} (hr : Ev (fun k => spec_FirstGust.l1 k m x1 x2 0) r) : ∀ (R S : List Int) (i : Nat), x1.drop i = R → x2.drop i = S →
    Ev (fun k => spec_FirstGust.l0 k m x1 x2 i) (if (∀ n ∈ R, 0 ≤ n ∧ n ≤ 1000000) ∧ (∀ n ∈ S, -50000 ≤ n ∧ n ≤ 50000) then r else (0, 2)) := by
  intro R
  induction R with
  | nil =>
    intro S i h k
    have h2 := drop_nil h
    have : S = [] := by rw [← k]; exact List.drop_eq_nil_of_le (by omega)
    subst this
    rw [if_pos (by simp)]
    exact Ev.step (fun k => spec_FirstGust.l0.eq_2 ..) (ev_neg (by omega) hr)
  | cons c R ih =>
    intro S i h k
    obtain ⟨g1, g2, g3⟩ := rd_drop h
    cases S with
    | nil => have := drop_nil k; omega
    | cons d S =>
      obtain ⟨k1, k2, k3⟩ := rd_drop k
      have e := ih S (i + 1) g3 k3
      refine Ev.step (fun k => spec_FirstGust.l0.eq_2 ..) (ev_pos (by omega) (ev_pos (by omega) ?_))
      rw [g2, k2, w64 (n := (i : Int) + 1) (by omega) (by omega)]
      refine ev_bind0 (in_eq ..) ?_
      by_cases a : 0 ≤ c ∧ c ≤ 1000000
      · refine ev_pos (by simpa using a) (ev_pos (by omega) (ev_bind0 (in_eq ..) ?_))
        by_cases b : -50000 ≤ d ∧ d ≤ 50000
        · refine ev_pos (by simpa using b) ?_
          have q : ((∀ n ∈ c :: R, 0 ≤ n ∧ n ≤ 1000000) ∧ (∀ n ∈ d :: S, -50000 ≤ n ∧ n ≤ 50000)) ↔ ((∀ n ∈ R, 0 ≤ n ∧ n ≤ 1000000) ∧ (∀ n ∈ S, -50000 ≤ n ∧ n ≤ 50000)) := by simp [a, b]
          simp only [q]
          exact e
        · refine ev_neg (by simpa using b) (ev_ret ?_)
          rw [if_neg (fun h => b (h.2 d (by simp)))]
      · refine ev_neg (by simpa using a) (ev_ret ?_)
        rw [if_neg (fun h => a (h.1 c (by simp)))]
theorem FirstGust_both (m : List S55) (x1 x2 : List Int) (hm : m.length ≤ 1000000000) (h1 : x1.length ≤ 1000000000) (h2 : x2.length ≤ 1000000000) :
    ∃ r, Ev (fun k => impl_FirstGust.f k m x1 x2) r ∧ Ev (fun k => spec_FirstGust.f k m x1 x2) r := by
  have hp := spec_IsProfile_ev m (by omega)
  have hq := impl_IsProfile_ev m (by omega)
  by_cases a : profB m = true
  · by_cases he : x1.length = x2.length
    · obtain ⟨r, e1, e2⟩ := gust_loop m x1 x2 hm h1 he x1 0 rfl
      have ec := gust_check m x1 x2 h1 he e1 x1 x2 0 rfl rfl
      refine ⟨_, ?_, hp.bind (ev_pos a (ev_pos (by omega) ec))⟩
      refine hq.bind (ev_pos a (ev_pos (by omega) ((impl_allWithin_ev x1 (by omega) 0 1000000).bind ?_)))
      by_cases b : ∀ n ∈ x1, 0 ≤ n ∧ n ≤ 1000000
      · refine ev_pos (by simpa using b) ((impl_allWithin_ev x2 (by omega) (-50000) 50000).bind (Ev.step (fun k => impl_FirstGust.j0.eq_2 ..) ?_))
        by_cases d : ∀ n ∈ x2, -50000 ≤ n ∧ n ≤ 50000
        · rw [if_pos ⟨b, d⟩]
          exact ev_neg (by rw [decide_eq_true d]; decide) e2
        · refine ev_pos (by rw [decide_eq_false d]; rfl) (ev_ret (by rw [if_neg (fun h => d h.2)]))
      · exact ev_neg (by simpa using b) (Ev.step (fun k => impl_FirstGust.j0.eq_2 ..) (ev_pos rfl (ev_ret (by rw [if_neg (fun h => b h.1)]))))
    · exact ⟨(0, 2), hq.bind (ev_pos a (ev_neg (by omega) (Ev.step (fun k => impl_FirstGust.j0.eq_2 ..) (ev_pos rfl (Ev.now _))))), hp.bind (ev_pos a (ev_neg (by omega) (Ev.now _)))⟩
  · exact ⟨(0, 1), hq.bind (ev_neg a (Ev.now _)), hp.bind (ev_neg a (Ev.now _))⟩

def windM (l : List S55) (h : Int) : Int × Int × Int :=
  if profB l = true then (if 0 ≤ h ∧ h ≤ 1000000 then (if findM l h < 0 then (0, 0, 4) else ((rd_T55 l (findM l h)).f1, (rd_T55 l (findM l h)).f2, 0)) else (0, 0, 2)) else (0, 0, 1)
theorem spec_l05Code_ev (l : List S55) (hl : l.length ≤ 1000000000) (h : Int) : Ev (fun k => spec_l05Code.f k l h) (if profB l = true then (if 0 ≤ h ∧ h ≤ 1000000 then (if findM l h < 0 then 4 else 0) else 2) else 1) := by
  refine (spec_IsProfile_ev l (by omega)).bind ?_
  by_cases a : profB l = true
  · refine ev_pos a (ev_bind0 (in_eq ..) ?_)
    by_cases b : 0 ≤ h ∧ h ≤ 1000000
    · refine ev_pos (by simpa using b) ((spec_l05Find_ev l (by omega) h).bind ?_)
      by_cases c : findM l h < 0
      · exact ev_pos c (ev_ret (by rw [if_pos a, if_pos b, if_pos c]))
      · exact ev_neg c (ev_ret (by rw [if_pos a, if_pos b, if_neg c]))
    · exact ev_neg (by simpa using b) (ev_ret (by rw [if_pos a, if_neg b]))
  · exact ev_neg a (ev_ret (by rw [if_neg a]))
theorem take_last (l : List S55) {t : Int} (h0 : 0 ≤ t) (h1 : t < l.length) : rd_T55 (l.take (t + 1).toNat) (((l.take (t + 1).toNat).length : Int) - 1) = rd_T55 l t := by
  have hl : (l.take (t + 1).toNat).length = (t + 1).toNat := by rw [List.length_take]; omega
  rw [hl, show (((t + 1).toNat : Nat) : Int) - 1 = t by omega]
  unfold rd_T55
  simp only [List.getD_eq_getElem?_getD, List.getElem?_take]
  rw [if_pos (by omega)]
theorem within_f (h : Int) : impl_within.f h 0 1000000 = some (decide (0 ≤ h ∧ h ≤ 1000000)) := within_eq ..

/-! ### the widest and the common wind, calm -/
def wideF : List S55 → Int × Int → Int × Int
  | [], r => r
  | c :: R, r => wideF R (mn r.1 c.f1, mx r.2 c.f2)
def commF : List S55 → Int × Int → Int × Int
  | [], r => r
  | c :: R, r => commF R (mx r.1 c.f1, mn r.2 c.f2)
def partM (l : List S55) (h : Int) : List S55 := l.take (findM l h + 1).toNat
def codeM (l : List S55) (h : Int) : Int := if profB l = true then (if 0 ≤ h ∧ h ≤ 1000000 then (if findM l h < 0 then 4 else 0) else 2) else 1
def wideR (l : List S55) (h : Int) : Int × Int := wideF (partM l h) ((rd_T55 l 0).f1, (rd_T55 l 0).f2)
def commR (l : List S55) (h : Int) : Int × Int := commF (partM l h) ((rd_T55 l 0).f1, (rd_T55 l 0).f2)
def wideM (l : List S55) (h : Int) : Int × Int × Int := if codeM l h = 0 then ((wideR l h).1, (wideR l h).2, 0) else (0, 0, codeM l h)
def commM (l : List S55) (h : Int) : Int × Int × Int := if codeM l h = 0 then (if (commR l h).1 > (commR l h).2 then (0, 0, 5) else ((commR l h).1, (commR l h).2, 0)) else (0, 0, codeM l h)
def calmL (R : List S55) (m : Int) : Bool := decide (∀ c ∈ R, -m ≤ c.f1 ∧ c.f2 ≤ m)
def calmH (h m : Int) : Int := if 0 ≤ m ∧ m ≤ 50000 then h else -1
def calmM (l : List S55) (h m : Int) : Bool × Int := if codeM l (calmH h m) = 0 then (calmL (partM l h) m, 0) else (false, codeM l (calmH h m))
theorem codeM_zero {l : List S55} {h : Int} (e : codeM l h = 0) : profB l = true ∧ (0 ≤ h ∧ h ≤ 1000000) ∧ 0 ≤ findM l h := by
  unfold codeM at e
  split at e
  · split at e
    · split at e
      · omega
      · refine ⟨by assumption, by assumption, by omega⟩
    · omega
  · omega
theorem profB_len {l : List S55} (h : profB l = true) : 1 ≤ l.length ∧ l.length ≤ 6 := by
  unfold profB at h
  simp only [Bool.and_eq_true, decide_eq_true_eq] at h
  exact h.1
theorem spec_l05Code_ev' (l : List S55) (hl : l.length ≤ 1000000000) (h : Int) : Ev (fun k => spec_l05Code.f k l h) (codeM l h) := spec_l05Code_ev l hl h
theorem part_drop {l R : List S55} {t : Int} {i : Nat} {c : S55} (h : (l.take (t + 1).toNat).drop i = c :: R) : (i : Int) ≤ t ∧ i < l.length ∧ rd_T55 l (i : Int) = c ∧ (l.take (t + 1).toNat).drop (i + 1) = R := by
  obtain ⟨h1, h2, h3⟩ := drop_cons h
  rw [List.length_take] at h1
  rw [List.getElem?_take, if_pos (by omega)] at h2
  refine ⟨by omega, by omega, ?_, h3⟩
  unfold rd_T55
  rw [Int.toNat_natCast, List.getD_eq_getElem?_getD, h2]; rfl
theorem wideF_calm (m : Int) : ∀ (R : List S55) (a b : Int), ((wideF R (a, b)).1 ≥ -m ∧ (wideF R (a, b)).2 ≤ m) ↔ ((a ≥ -m ∧ b ≤ m) ∧ ∀ c ∈ R, -m ≤ c.f1 ∧ c.f2 ≤ m)
  | [], a, b => by simp [wideF]
  | c :: R, a, b => by
    unfold wideF
    rw [wideF_calm m R]
    simp only [List.mem_cons, forall_eq_or_imp]
    unfold mn mx
    constructor
    · rintro ⟨⟨h1, h2⟩, h3⟩
      refine ⟨⟨?_, ?_⟩, ⟨?_, ?_⟩, h3⟩ <;> revert h1 h2 <;> (try dsimp only) <;> split <;> split <;> intros <;> omega
    · rintro ⟨⟨h1, h2⟩, ⟨h3, h4⟩, h5⟩
      refine ⟨⟨?_, ?_⟩, h5⟩ <;> (try dsimp only) <;> split <;> omega
theorem part_head {l : List S55} {h : Int} (h0 : 0 ≤ findM l h) (h1 : 1 ≤ l.length) : rd_T55 l 0 ∈ partM l h := by
  cases l with
  | nil => simp at h1
  | cons c R =>
    unfold partM
    obtain ⟨n, hn⟩ : ∃ n, (findM (c :: R) h + 1).toNat = n + 1 := ⟨(findM (c :: R) h).toNat, by omega⟩
    rw [hn]
    simp [rd_T55]
/-! ### a profile that is widened -/
def sideH (h m : Int) : Int := if -50000 ≤ m ∧ m ≤ 50000 then h else -1
def widC (c : S55) (m : Int) : S55 := ⟨c.f0, mn c.f1 m, mx c.f2 m⟩
def widL (l : List S55) (h m : Int) : List S55 := l.set (findM l h).toNat (widC (rd_T55 l (findM l h)) m)
def widenM (l : List S55) (h m : Int) : List S55 × Int := if codeM l (sideH h m) = 0 then (widL l h m, 0) else ([], codeM l (sideH h m))
theorem code_off (l : List S55) : codeM l (-1) = if profB l = true then 2 else 1 := by
  unfold codeM; rw [if_neg (show ¬ ((0 : Int) ≤ -1 ∧ (-1 : Int) ≤ 1000000) by omega)]
theorem sideH_in {l : List S55} {h m : Int} (e : codeM l (sideH h m) = 0) : (-50000 ≤ m ∧ m ≤ 50000) ∧ sideH h m = h := by
  obtain ⟨_, b, _⟩ := codeM_zero e
  unfold sideH at b
  split at b
  · rename_i g
    exact ⟨g, by unfold sideH; rw [if_pos g]⟩
  · omega
theorem rd_set (l : List S55) {t : Int} (h0 : 0 ≤ t) (h1 : t < l.length) (c : S55) : rd_T55 (l.set t.toNat c) t = c := by
  unfold rd_T55
  rw [List.getD_eq_getElem?_getD, List.getElem?_set_self (by omega)]; rfl
theorem two_sets (l : List S55) {t : Int} (h0 : 0 ≤ t) (h1 : t < l.length) (m : Int) :
    (l.set t.toNat (⟨(rd_T55 l t).f0, mn ((rd_T55 l t).f1) m, (rd_T55 l t).f2⟩ : S55)).set t.toNat (⟨(rd_T55 (l.set t.toNat (⟨(rd_T55 l t).f0, mn ((rd_T55 l t).f1) m, (rd_T55 l t).f2⟩ : S55)) t).f0, (rd_T55 (l.set t.toNat (⟨(rd_T55 l t).f0, mn ((rd_T55 l t).f1) m, (rd_T55 l t).f2⟩ : S55)) t).f1, mx ((rd_T55 (l.set t.toNat (⟨(rd_T55 l t).f0, mn ((rd_T55 l t).f1) m, (rd_T55 l t).f2⟩ : S55)) t).f2) m⟩ : S55) = l.set t.toNat (widC (rd_T55 l t) m) := by
  rw [rd_set l h0 h1, List.set_set]; rfl
theorem spec_WidenWind_ev (l : List S55) (hl : l.length ≤ 1000000000) (h m : Int) : Ev (fun k => spec_WidenWind.f k l h m) (widenM l h m) := by
  have key : ∀ h' : Int, h' = sideH h m → Ev (fun k => spec_WidenWind.j0 k l h' m) (widenM l h m) := by
    intro h' e
    refine Ev.step (fun k => spec_WidenWind.j0.eq_2 ..) ((spec_l05Code_ev' l hl h').bind ?_)
    unfold widenM
    rw [← e]
    by_cases g : codeM l h' = 0
    · have he : h' = h := by rw [e] at g ⊢; exact (sideH_in g).2
      obtain ⟨a, b, c⟩ := codeM_zero g
      have hlt := findM_lt l h'
      have hp := profB_len a
      refine ev_pos g (ev_bind0 rfl (ev_pos (by simp only [List.length_nil]; omega) (ev_bind0 rfl ((spec_l05Find_ev l (by omega) h').bind ?_))))
      rw [List.nil_append]
      refine ev_pos c (ev_pos hlt (ev_bind0 rfl (ev_ret ?_)))
      rw [two_sets l c hlt m, if_pos g, he]; rfl
    · exact ev_neg g (ev_ret (by rw [if_neg g]))
  refine ev_bind0 (in_eq ..) ?_
  by_cases hm : -50000 ≤ m ∧ m ≤ 50000
  · exact ev_pos (by simpa using hm) (key h (by unfold sideH; rw [if_pos hm]))
  · exact ev_neg (by simpa using hm) (key (-1) (by unfold sideH; rw [if_neg hm]))

/-! ### what the program answers, over the print's own pure functions -/
theorem impl_layersTo_j0 (l : List S55) (hl : l.length ≤ 1000000000) (h : Int) : Ev (fun k => impl_layersTo.j0 k l h false) (if findM l h < 0 then ([], 4) else (partM l h, 0)) := by
  have hlt := findM_lt l h
  refine Ev.step (fun k => impl_layersTo.j0.eq_2 ..) (ev_neg (by decide) ((impl_layerOf_ev l (by omega) h).bind ?_))
  by_cases a : findM l h < 0
  · exact ev_pos a (ev_ret (by rw [if_pos a]))
  · refine ev_neg a ?_
    rw [if_neg a, w64 (n := findM l h + 1) (by omega) (by omega)]
    refine ev_bind0 rfl (ev_pos (by omega) (ev_pos (by omega) (ev_bind0 rfl (ev_pos ?_ (ev_ret ?_)))))
    · simp only [List.length_nil, List.length_take]; omega
    · rw [List.nil_append]; rfl
theorem impl_layersTo_ev (l : List S55) (hl : l.length ≤ 1000000000) (h : Int) : Ev (fun k => impl_layersTo.f k l h true) (if codeM l h = 0 then partM l h else [], codeM l h) := by
  refine (impl_IsProfile_ev l (by omega)).bind ?_
  unfold codeM
  by_cases a : profB l = true
  · refine ev_pos a (ev_bind0 (within_f h) ?_)
    simp only [a, if_true]
    by_cases b : 0 ≤ h ∧ h ≤ 1000000
    · refine ev_pos (by simpa using b) ?_
      simp only [b, and_self, if_true, Bool.not_true]
      have e := impl_layersTo_j0 l hl h
      by_cases c : findM l h < 0
      · simp only [c, if_true] at e ⊢; exact e
      · simp only [c, if_false, if_true] at e ⊢; exact e
    · refine ev_neg (by simpa using b) (Ev.step (fun k => impl_layersTo.j0.eq_2 ..) (ev_pos rfl (ev_ret ?_)))
      simp [b]
  · exact ev_neg a (ev_ret (by simp [a]))
theorem impl_layersTo_off (l : List S55) (hl : l.length ≤ 1000000000) (h : Int) : Ev (fun k => impl_layersTo.f k l h false) ([], if profB l = true then 2 else 1) := by
  refine (impl_IsProfile_ev l (by omega)).bind ?_
  by_cases a : profB l = true
  · refine ev_pos a (ev_bind0 (within_f h) ?_)
    have e : Ev (fun k => impl_layersTo.j0 k l h true) (([] : List S55), 2) := Ev.step (fun k => impl_layersTo.j0.eq_2 ..) (ev_pos rfl (Ev.now _))
    rw [if_pos a]
    by_cases b : 0 ≤ h ∧ h ≤ 1000000
    · exact ev_pos (by simpa using b) e
    · exact ev_neg (by simpa using b) e
  · exact ev_neg a (ev_ret (by rw [if_neg a]))
theorem part_len {l : List S55} {h : Int} (e : codeM l h = 0) : 1 ≤ (partM l h).length ∧ (partM l h).length ≤ l.length ∧ rd_T55 (partM l h) 0 = rd_T55 l 0 ∧ ((partM l h).length : Int) = findM l h + 1 := by
  obtain ⟨a, b, c⟩ := codeM_zero e
  have hlt := findM_lt l h
  have hl := profB_len a
  unfold partM
  refine ⟨by rw [List.length_take]; omega, by rw [List.length_take]; omega, ?_, by rw [List.length_take]; omega⟩
  cases l with
  | nil => simp at hl
  | cons x R =>
    obtain ⟨n, hn⟩ : ∃ n, (findM (x :: R) h + 1).toNat = n + 1 := ⟨(findM (x :: R) h).toNat, by omega⟩
    rw [hn]; rfl
theorem windM_eq (l : List S55) (h : Int) : windM l h = if codeM l h = 0 then ((rd_T55 l (findM l h)).f1, (rd_T55 l (findM l h)).f2, 0) else (0, 0, codeM l h) := by
  unfold windM codeM
  by_cases a : profB l = true
  · by_cases b : 0 ≤ h ∧ h ≤ 1000000
    · by_cases c : findM l h < 0
      · simp [a, b, c]
      · simp [a, b, c]
    · simp [a, b]
  · simp [a]
theorem impl_WindAt_ev (l : List S55) (hl : l.length ≤ 1000000000) (h : Int) : Ev (fun k => impl_WindAt.f k l h) (windM l h) := by
  refine (impl_layersTo_ev l hl h).bind ?_
  rw [windM_eq]
  by_cases e : codeM l h = 0
  · obtain ⟨p1, p2, p3, p4⟩ := part_len e
    obtain ⟨a, b, c⟩ := codeM_zero e
    simp only [e, if_true]
    rw [w64 (n := ((partM l h).length : Int) - 1) (by omega) (by omega)]
    refine ev_pos (by omega) (ev_pos (by omega) (ev_ret ?_))
    have := take_last l c (findM_lt l h)
    unfold partM
    rw [this]
  · simp only [e, if_false]
    exact Ev.now _
theorem impl_WidenWind_ev (l : List S55) (hl : l.length ≤ 1000000000) (h m : Int) : Ev (fun k => impl_WidenWind.f k l h m) (widenM l h m) := by
  refine ev_bind0 (isSide_eq m) ?_
  unfold widenM
  by_cases hm : -50000 ≤ m ∧ m ≤ 50000
  · rw [decide_eq_true hm, show sideH h m = h by unfold sideH; rw [if_pos hm]]
    refine (impl_layersTo_ev l hl h).bind ?_
    by_cases g : codeM l h = 0
    · obtain ⟨p1, p2, p3, p4⟩ := part_len g
      obtain ⟨a, b, c⟩ := codeM_zero g
      have hlt := findM_lt l h
      simp only [g, if_true]
      have e : wrap64 (((partM l h).length : Int) - 1) = findM l h := by rw [w64 (by omega) (by omega)]; omega
      rw [e]
      refine ev_bind0 rfl (ev_pos (by simp only [List.length_nil]; omega) (ev_bind0 rfl ?_))
      rw [List.nil_append]
      refine ev_pos c (ev_pos hlt (ev_bind0 rfl (ev_ret ?_)))
      rw [two_sets l c hlt m]; rfl
    · simp only [g, if_false]
      exact Ev.now _
  · rw [decide_eq_false hm, show sideH h m = -1 by unfold sideH; rw [if_neg hm], code_off]
    refine (impl_layersTo_off l hl h).bind ?_
    by_cases a : profB l = true
    · simp only [a, if_true]
      exact ev_neg (by decide) (ev_ret rfl)
    · simp only [a, if_false]
      exact ev_neg (by decide) (ev_ret rfl)

def gustL (l : List S55) : List Int → List Int → Nat → Int × Int
  | n :: R, w :: S, i => if findM l n < 0 then (0, 4) else (if (rd_T55 l (findM l n)).f1 ≤ w ∧ w ≤ (rd_T55 l (findM l n)).f2 then gustL l R S (i + 1) else ((i : Int), 0))
  | _, _, _ => (0, 4)
def gustA (x1 x2 : List Int) : Prop := (∀ n ∈ x1, 0 ≤ n ∧ n ≤ 1000000) ∧ (∀ n ∈ x2, -50000 ≤ n ∧ n ≤ 50000)
instance (x1 x2 : List Int) : Decidable (gustA x1 x2) := inferInstanceAs (Decidable ((∀ n ∈ x1, 0 ≤ n ∧ n ≤ 1000000) ∧ (∀ n ∈ x2, -50000 ≤ n ∧ n ≤ 50000)))
def gustM (l : List S55) (x1 x2 : List Int) : Int × Int := if profB l = true then (if x1.length = x2.length then (if gustA x1 x2 then gustL l x1 x2 0 else (0, 2)) else (0, 2)) else (0, 1)
theorem gustL_spec (m : List S55) (x1 x2 : List Int) (hm : m.length ≤ 1000000000) (h1 : x1.length ≤ 1000000000) (he : x1.length = x2.length) : ∀ (R S : List Int) (i : Nat), x1.drop i = R → x2.drop i = S →
    Ev (fun k => spec_FirstGust.l1 k m x1 x2 i) (gustL m R S i) ∧ Ev (fun k => impl_FirstGust.l0 k m x2 x1 (x1.length : Int) i) (gustL m R S i) := by
  intro R
  induction R with
  | nil =>
    intro S i h k
    have := drop_nil h
    have e : gustL m [] S i = (0, 4) := by cases S <;> rfl
    rw [e]
    exact ⟨Ev.step (fun k => spec_FirstGust.l1.eq_2 ..) (ev_neg (by omega) (Ev.now _)), Ev.step (fun k => impl_FirstGust.l0.eq_2 ..) (ev_neg (by omega) (Ev.now _))⟩
  | cons c R ih =>
    intro S i h k
    obtain ⟨g1, g2, g3⟩ := rd_drop h
    cases S with
    | nil => have := drop_nil k; omega
    | cons d S =>
      obtain ⟨k1, k2, k3⟩ := rd_drop k
      have hs := spec_l05Find_ev m (by omega) c
      have hi := impl_layerOf_ev m (by omega) c
      have hlt := findM_lt m c
      obtain ⟨e1, e2⟩ := ih S (i + 1) g3 k3
      by_cases a : findM m c < 0
      · have e : gustL m (c :: R) (d :: S) i = (0, 4) := by unfold gustL; rw [if_pos a]
        rw [e]
        refine ⟨Ev.step (fun k => spec_FirstGust.l1.eq_2 ..) (ev_pos (by omega) (ev_pos (by omega) ?_)), Ev.step (fun k => impl_FirstGust.l0.eq_2 ..) (ev_pos (by omega) (ev_pos (by omega) (ev_pos (by omega) ?_)))⟩
        · rw [g2]; exact hs.bind (ev_pos a (Ev.now _))
        · rw [g2]; exact hi.bind (ev_pos a (Ev.now _))
      · by_cases b : (rd_T55 m (findM m c)).f1 ≤ d ∧ d ≤ (rd_T55 m (findM m c)).f2
        · have e : gustL m (c :: R) (d :: S) i = gustL m R S (i + 1) := by rw [gustL, if_neg a, if_pos b]
          rw [e]
          refine ⟨Ev.step (fun k => spec_FirstGust.l1.eq_2 ..) (ev_pos (by omega) (ev_pos (by omega) ?_)), Ev.step (fun k => impl_FirstGust.l0.eq_2 ..) (ev_pos (by omega) (ev_pos (by omega) (ev_pos (by omega) ?_)))⟩
          · rw [g2, k2, w64 (n := (i : Int) + 1) (by omega) (by omega)]
            exact hs.bind (ev_neg a (ev_pos (by omega) (ev_pos (by omega) (ev_pos (by omega) (ev_bind0 (in_eq ..) (ev_pos (by simpa using b) e1))))))
          · rw [g2, k2, w64 (n := (i : Int) + 1) (by omega) (by omega)]
            exact hi.bind (ev_neg a (ev_pos (by omega) (ev_pos (by omega) (ev_pos (by omega) (ev_bind0 (within_eq ..) (ev_pos (by simpa using b) e2))))))
        · have e : gustL m (c :: R) (d :: S) i = ((i : Int), 0) := by rw [gustL, if_neg a, if_neg b]
          rw [e]
          refine ⟨Ev.step (fun k => spec_FirstGust.l1.eq_2 ..) (ev_pos (by omega) (ev_pos (by omega) ?_)), Ev.step (fun k => impl_FirstGust.l0.eq_2 ..) (ev_pos (by omega) (ev_pos (by omega) (ev_pos (by omega) ?_)))⟩
          · rw [g2, k2]
            exact hs.bind (ev_neg a (ev_pos (by omega) (ev_pos (by omega) (ev_pos (by omega) (ev_bind0 (in_eq ..) (ev_neg (by simpa using b) (Ev.now _)))))))
          · rw [g2, k2]
            exact hi.bind (ev_neg a (ev_pos (by omega) (ev_pos (by omega) (ev_pos (by omega) (ev_bind0 (within_eq ..) (ev_neg (by simpa using b) (Ev.now _)))))))
theorem spec_FirstGust_ev (m : List S55) (x1 x2 : List Int) (hm : m.length ≤ 1000000000) (h1 : x1.length ≤ 1000000000) : Ev (fun k => spec_FirstGust.f k m x1 x2) (gustM m x1 x2) := by
  refine (spec_IsProfile_ev m (by omega)).bind ?_
  unfold gustM
  by_cases a : profB m = true
  · refine ev_pos a ?_
    rw [if_pos a]
    by_cases he : x1.length = x2.length
    · rw [if_pos he]
      have e1 := (gustL_spec m x1 x2 hm h1 he x1 x2 0 rfl rfl).1
      exact ev_pos (by omega) (gust_check m x1 x2 h1 he e1 x1 x2 0 rfl rfl)
    · rw [if_neg he]
      exact ev_neg (by omega) (Ev.now _)
  · exact ev_neg a (ev_ret (by rw [if_neg a]))
theorem impl_FirstGust_ev (m : List S55) (x1 x2 : List Int) (hm : m.length ≤ 1000000000) (h1 : x1.length ≤ 1000000000) (h2 : x2.length ≤ 1000000000) : Ev (fun k => impl_FirstGust.f k m x1 x2) (gustM m x1 x2) := by
  refine (impl_IsProfile_ev m (by omega)).bind ?_
  unfold gustM
  by_cases a : profB m = true
  · refine ev_pos a ?_
    rw [if_pos a]
    by_cases he : x1.length = x2.length
    · rw [if_pos he]
      have e1 := (gustL_spec m x1 x2 hm h1 he x1 x2 0 rfl rfl).2
      refine ev_pos (by omega) ((impl_allWithin_ev x1 (by omega) 0 1000000).bind ?_)
      by_cases b : ∀ n ∈ x1, 0 ≤ n ∧ n ≤ 1000000
      · refine ev_pos (by simpa using b) ((impl_allWithin_ev x2 (by omega) (-50000) 50000).bind (Ev.step (fun k => impl_FirstGust.j0.eq_2 ..) ?_))
        by_cases d : ∀ n ∈ x2, -50000 ≤ n ∧ n ≤ 50000
        · rw [if_pos (show gustA x1 x2 from ⟨b, d⟩)]
          exact ev_neg (by rw [decide_eq_true d]; decide) e1
        · refine ev_pos (by rw [decide_eq_false d]; rfl) (ev_ret (by rw [if_neg (fun h : gustA x1 x2 => d h.2)]))
      · exact ev_neg (by simpa using b) (Ev.step (fun k => impl_FirstGust.j0.eq_2 ..) (ev_pos rfl (ev_ret (by rw [if_neg (fun h : gustA x1 x2 => b h.1)]))))
    · rw [if_neg he]
      exact ev_neg (by omega) (Ev.step (fun k => impl_FirstGust.j0.eq_2 ..) (ev_pos rfl (Ev.now _)))
  · exact ev_neg a (ev_ret (by rw [if_neg a]))
theorem gustL_found (l : List S55) : ∀ (R S : List Int) (i : Nat) (g : Int), gustL l R S i = (g, 0) → R.length = S.length → (i : Int) ≤ g ∧ (g - i < R.length) ∧ 0 ≤ findM l (R.getD (g - i).toNat 0) ∧
    ¬ ((rd_T55 l (findM l (R.getD (g - i).toNat 0))).f1 ≤ S.getD (g - i).toNat 0 ∧ S.getD (g - i).toNat 0 ≤ (rd_T55 l (findM l (R.getD (g - i).toNat 0))).f2) ∧ ∀ j, gustL l (R.take (g - i).toNat) (S.take (g - i).toNat) j = (0, 4)
  | [], S, i, g, h, _ => by cases S <;> simp [gustL] at h
  | n :: R, [], i, g, h, hl => by simp at hl
  | n :: R, w :: S, i, g, h, hl => by
    rw [gustL] at h
    by_cases a : findM l n < 0
    · rw [if_pos a] at h; simp at h
    · rw [if_neg a] at h
      by_cases b : (rd_T55 l (findM l n)).f1 ≤ w ∧ w ≤ (rd_T55 l (findM l n)).f2
      · rw [if_pos b] at h
        obtain ⟨q1, q2, q3, q4, q5⟩ := gustL_found l R S (i + 1) g h (by simpa using hl)
        have e : (g - (i : Int)).toNat = (g - ((i + 1 : Nat) : Int)).toNat + 1 := by omega
        rw [e]
        refine ⟨by omega, by simp; omega, q3, q4, fun j => ?_⟩
        rw [List.take_succ_cons, List.take_succ_cons, gustL, if_neg a, if_pos b]
        exact q5 (j + 1)
      · rw [if_neg b] at h
        simp only [Prod.mk.injEq, and_true] at h
        have e : (g - (i : Int)).toNat = 0 := by omega
        rw [e]
        refine ⟨by omega, by simp; omega, by simpa using a, by simpa using b, fun j => by simp [gustL]⟩

/-! ### numbers that follow from a code -/
def Code (c : List Int) : Prop := (∀ x ∈ c, 0 ≤ x ∧ x ≤ 255) ∧ c.length ≤ 5000
def Src (c : List Int) (a s : Int) : Prop := Code c ∧ (0 ≤ a ∧ a ≤ c.length) ∧ 0 ≤ s ∧ s < 2147483647
theorem rd_code {c : List Int} (h : Code c) {i : Int} (h0 : 0 ≤ i) (h1 : i < c.length) : 0 ≤ rd c i ∧ rd c i ≤ 255 := by
  unfold rd
  have hi : i.toNat < c.length := by omega
  rw [List.getD_eq_getElem?_getD, List.getElem?_eq_getElem hi]
  exact h.1 _ (List.getElem_mem hi)
theorem tmod_nn {a b : Int} (ha : 0 ≤ a) : Int.tmod a b = a % b := Int.tmod_eq_emod_of_nonneg ha
theorem tmod_in {a b : Int} (ha : 0 ≤ a) (hb : 0 < b) : 0 ≤ Int.tmod a b ∧ Int.tmod a b < b := by
  rw [tmod_nn ha]
  exact ⟨Int.emod_nonneg a (by omega), Int.emod_lt_of_pos a hb⟩
theorem l01Next_some {c : List Int} {a s n : Int} (h : Src c a s) (hn : n ≤ 4611686018427387904) : ∃ x a' s', spec_l01Next.f c a s n = some (x, a', s') ∧ Src c a' s' ∧ 0 ≤ x ∧ (1 ≤ n → x < n) ∧ (n ≤ 1 → x = 0) := by
  obtain ⟨hc, ⟨a0, a1⟩, s0, s1⟩ := h
  have hl := hc.2
  unfold spec_l01Next.f
  by_cases g : n ≤ 1
  · rw [if_pos g]
    exact ⟨0, a, s, rfl, ⟨hc, ⟨a0, a1⟩, s0, s1⟩, by omega, by omega, by omega⟩
  · rw [if_neg g]
    have e1 : wrap64 ((wrap64 (s * 48271)) + 29) = s * 48271 + 29 := by
      rw [w64 (n := s * 48271) (by omega) (by omega), w64 (by omega) (by omega)]
    have e2 := tmod_in (a := s * 48271 + 29) (b := 2147483647) (by omega) (by omega)
    rw [e1]
    generalize Int.tmod (s * 48271 + 29) 2147483647 = s' at *
    have e3 : wrap64 (Int.tdiv s' 31) = s' / 31 := by rw [Int.tdiv_eq_ediv_of_nonneg (by omega), w64 (by omega) (by omega)]
    rw [e3]
    by_cases g1 : a < (c.length : Int)
    · have hr := rd_code hc a0 g1
      rw [if_pos g1, if_pos a0, w64 (n := a + 1) (by omega) (by omega), w64 (n := a + 1 - 1) (by omega) (by omega), show a + 1 - 1 = a by omega, w64 (n := rd c a) (by omega) (by omega), w64 (n := s' / 31 + rd c a) (by omega) (by omega)]
      have t1 := tmod_in (a := rd c a) (b := n) (by omega) (by omega)
      have t2 := tmod_in (a := s' / 31 + rd c a) (b := n) (by omega) (by omega)
      have fin : Src c (a + 1) s' := ⟨hc, ⟨by omega, by omega⟩, e2⟩
      by_cases g2 : n ≤ 256
      · rw [if_pos g2]
        by_cases g3 : Int.tmod (a + 1) 2 = 0
        · rw [if_pos g3, if_pos a0, if_pos g1, if_neg (by omega)]
          exact ⟨_, _, _, rfl, fin, t1.1, fun _ => t1.2, by omega⟩
        · rw [if_neg g3, if_neg (by omega)]
          exact ⟨_, _, _, rfl, fin, t2.1, fun _ => t2.2, by omega⟩
      · rw [if_neg g2, if_neg (by omega)]
        exact ⟨_, _, _, rfl, fin, t2.1, fun _ => t2.2, by omega⟩
    · have t2 := tmod_in (a := s' / 31) (b := n) (by omega) (by omega)
      rw [if_neg g1, if_neg (by omega)]
      exact ⟨_, _, _, rfl, ⟨hc, ⟨a0, a1⟩, e2⟩, t2.1, fun _ => t2.2, by omega⟩
theorem l01Pick_some {c : List Int} {a s : Int} (h : Src c a s) {l : List Int} (hl : 1 ≤ l.length) (hl' : l.length ≤ 1000) : ∃ x a' s', spec_l01Pick.f c a s l = some (x, a', s') ∧ Src c a' s' ∧ x ∈ l := by
  obtain ⟨x, a', s', e, h', x0, x1, _⟩ := l01Next_some h (n := (l.length : Int)) (by omega)
  have x2 := x1 (by omega)
  unfold spec_l01Pick.f
  rw [e, Option.bind_some, if_pos x0, if_pos x2]
  refine ⟨_, _, _, rfl, h', ?_⟩
  unfold rd
  have hi : x.toNat < l.length := by omega
  rw [List.getD_eq_getElem?_getD, List.getElem?_eq_getElem hi]
  exact List.getElem_mem hi
theorem l01From_l0 {c : List Int} (hc : Code c) : ∀ (d : Nat) (i : Int) (s : Int), 64 - i = d → 0 ≤ i → 0 ≤ s → s < 2147483647 → ∃ s', Ev (fun k => spec_l01From.l0 k c i c 0 s) (c, 0, s') ∧ Src c 0 s' := by
  intro d
  have hl := hc.2
  induction d with
  | zero =>
    intro i s hd h0 s0 s1
    refine ⟨s, Ev.step (fun k => spec_l01From.l0.eq_2 ..) ?_, hc, ⟨by omega, by omega⟩, s0, s1⟩
    by_cases g : i < (c.length : Int)
    · exact ev_pos g (ev_neg (by omega) (Ev.now _))
    · exact ev_neg g (Ev.now _)
  | succ d ih =>
    intro i s hd h0 s0 s1
    by_cases g : i < (c.length : Int)
    · have hr := rd_code hc h0 g
      have e1 : wrap64 ((wrap64 (s * 83)) + (wrap64 (rd c i))) = s * 83 + rd c i := by
        rw [w64 (n := s * 83) (by omega) (by omega), w64 (n := rd c i) (by omega) (by omega), w64 (by omega) (by omega)]
      have e2 := tmod_in (a := s * 83 + rd c i) (b := 2147483647) (by omega) (by omega)
      obtain ⟨s', hs, h⟩ := ih (i + 1) (Int.tmod (s * 83 + rd c i) 2147483647) (by omega) (by omega) e2.1 e2.2
      refine ⟨s', Ev.step (fun k => spec_l01From.l0.eq_2 ..) (ev_pos g (ev_pos (by omega) (ev_pos h0 ?_))), h⟩
      rw [e1, w64 (by omega) (by omega)]
      exact hs
    · exact ⟨s, Ev.step (fun k => spec_l01From.l0.eq_2 ..) (ev_neg g (Ev.now _)), hc, ⟨by omega, by omega⟩, s0, s1⟩
theorem l01From_ev {c : List Int} (hc : Code c) : ∃ s, Ev (fun k => spec_l01From.f k c) (c, 0, s) ∧ Src c 0 s :=
  l01From_l0 hc 64 0 61043 (by omega) (by omega) (by omega) (by omega)
/-! ### dice -/
def Dice (c : List Int) (i h : Int) : Prop := Code c ∧ (0 ≤ i ∧ i ≤ c.length) ∧ 0 ≤ h ∧ h ≤ 18446744073709551615
theorem u64w (n : Int) : 0 ≤ IntKind.u64.wrap n ∧ IntKind.u64.wrap n ≤ 18446744073709551615 := by
  have e : IntKind.u64.wrap n = n % 18446744073709551616 := by rfl
  omega
theorem big_false {c : List Int} (h : ¬ (c.length : Int) > 4096) : laws_big.f c = some false := by unfold laws_big.f; simp; omega
theorem big_true {c : List Int} (h : (c.length : Int) > 4096) : laws_big.f c = some true := by unfold laws_big.f; simp; omega
theorem code_of {c : List Int} (h : ∀ x ∈ c, (Lit.int .u8 x).wf = true) (hl : ¬ (c.length : Int) > 4096) : Code c := ⟨fun x hx => bd8 (h x hx), by omega⟩

/-! ### drawn profiles -/
theorem l05Good_l0 {c : List Int} : ∀ (d : Nat) (out : List S55) (x a s : Int), Src c a s → out.length + d ≤ 10 → ∃ l a' s', Ev (fun k => spec_l05Good.l0 k out x (d : Int) c a s) (l, a', s') ∧ Src c a' s' ∧ l.length = out.length + d := by
  intro d
  induction d with
  | zero =>
    intro out x a s h ho
    exact ⟨_, _, _, Ev.step (fun k => spec_l05Good.l0.eq_2 ..) (ev_neg (by omega) (Ev.now _)), h, rfl⟩
  | succ d ih =>
    intro out x a s h ho
    obtain ⟨x0, a0, s0, e0, h0, _⟩ := l01Next_some h (n := 100000) (by omega)
    obtain ⟨x1, a1, s1, e1, h1, _⟩ := l01Next_some h0 (n := 12001) (by omega)
    obtain ⟨x2, a2, s2, e2, h2, _⟩ := l01Next_some h1 (n := 6000) (by omega)
    obtain ⟨l, a', s', e, h', hl⟩ := ih (out ++ [(⟨wrap64 ((wrap64 (x + 1)) + x0), wrap64 (x1 - 6000), wrap64 ((wrap64 (x1 - 6000)) + x2)⟩ : S55)]) (wrap64 ((wrap64 (x + 1)) + x0)) a2 s2 h2 (by simp; omega)
    refine ⟨l, a', s', Ev.step (fun k => spec_l05Good.l0.eq_2 ..) (ev_pos (by omega) (ev_bind0 e0 (ev_bind0 e1 (ev_bind0 e2 (ev_pos (by omega) ?_))))), h', by rw [hl]; simp; omega⟩
    rw [w64 (n := ((d + 1 : Nat) : Int) - 1) (by omega) (by omega), show ((d + 1 : Nat) : Int) - 1 = (d : Int) by omega]
    exact e
theorem l05Good_ev {c : List Int} {a s : Int} (h : Src c a s) : ∃ l a' s', Ev (fun k => spec_l05Good.f k c a s) (l, a', s') ∧ Src c a' s' ∧ 1 ≤ l.length ∧ l.length ≤ 4 := by
  obtain ⟨x0, a0, s0, e0, h0, b0, c0, _⟩ := l01Next_some h (n := 4) (by omega)
  have c0 := c0 (by omega)
  obtain ⟨l, a', s', e, h', hl⟩ := l05Good_l0 (1 + x0).toNat [] 0 a0 s0 h0 (by simp; omega)
  refine ⟨l, a', s', ev_bind0 e0 ?_, h', by rw [hl]; simp; omega, by rw [hl]; simp; omega⟩
  dsimp only
  rw [w64 (n := 1 + x0) (by omega) (by omega), show 1 + x0 = (((1 + x0).toNat : Nat) : Int) by omega]
  exact e
theorem l05Draw_l0 {c : List Int} : ∀ (d : Nat) (out : List S55) (x a s : Int), Src c a s → out.length + d = 8 → ∃ l a' s', Ev (fun k => spec_l05Draw.l0 k out x c a s) (l, a', s') ∧ Src c a' s' ∧ l.length ≤ 8 := by
  intro d
  induction d with
  | zero =>
    intro out x a s h ho
    obtain ⟨x0, a0, s0, e0, h0, b0, c0, _⟩ := l01Next_some h (n := 2) (by omega)
    have c0 := c0 (by omega)
    refine ⟨_, _, _, Ev.step (fun k => spec_l05Draw.l0.eq_2 ..) (ev_bind0 e0 (ev_neg ?_ (Ev.now _))), h0, by omega⟩
    dsimp only
    rw [w64 (n := 6 + x0) (by omega) (by omega)]; omega
  | succ d ih =>
    intro out x a s h ho
    obtain ⟨x0, a0, s0, e0, h0, b0, c0, _⟩ := l01Next_some h (n := 2) (by omega)
    have c0 := c0 (by omega)
    by_cases g : (out.length : Int) < 6 + x0
    · obtain ⟨l, a', s', e, h', hl⟩ := ih (out ++ [(⟨x, (-5), 5⟩ : S55)]) (wrap64 (x + 1)) a0 s0 h0 (by simp; omega)
      refine ⟨l, a', s', Ev.step (fun k => spec_l05Draw.l0.eq_2 ..) (ev_bind0 e0 (ev_pos ?_ (ev_pos (by omega) e))), h', hl⟩
      dsimp only
      rw [w64 (n := 6 + x0) (by omega) (by omega)]; omega
    · refine ⟨_, _, _, Ev.step (fun k => spec_l05Draw.l0.eq_2 ..) (ev_bind0 e0 (ev_neg ?_ (Ev.now _))), h0, by omega⟩
      dsimp only
      rw [w64 (n := 6 + x0) (by omega) (by omega)]; omega
theorem l05Draw_ev {c : List Int} {a s : Int} (h : Src c a s) : ∃ l a' s', Ev (fun k => spec_l05Draw.f k c a s) (l, a', s') ∧ Src c a' s' ∧ l.length ≤ 8 := by
  obtain ⟨l, a0, s0, e0, h0, l1, l2⟩ := l05Good_ev h
  obtain ⟨x1, a1, s1, e1, h1, b1, c1, _⟩ := l01Next_some h0 (n := (l.length : Int)) (by omega)
  have c1 := c1 (by omega)
  obtain ⟨x2, a2, s2, e2, h2, _⟩ := l01Next_some h1 (n := 40) (by omega)
  by_cases g0 : x2 = 0
  · obtain ⟨x3, a3, s3, e3, h3, _⟩ := l01Pick_some h2 (l := [wrap64 (((rd_T55 l x1).f1) - 1), 50000, 50001]) (by simp) (by simp)
    exact ⟨_, _, _, e0.bind (ev_bind0 e1 (ev_bind0 e2 (ev_pos g0 (ev_pos b1 (ev_pos c1 (ev_bind0 e3 (Ev.now _))))))), h3, by simp; omega⟩
  · by_cases g1 : x2 = 1
    · obtain ⟨x3, a3, s3, e3, h3, _⟩ := l01Pick_some h2 (l := [0, 1, 1000000, 1000001]) (by simp) (by simp)
      exact ⟨_, _, _, e0.bind (ev_bind0 e1 (ev_bind0 e2 (ev_neg g0 (ev_pos g1 (ev_bind0 e3 (ev_pos b1 (ev_pos c1 (Ev.now _)))))))), h3, by simp; omega⟩
    · by_cases g2 : x2 = 2
      · obtain ⟨m, a3, s3, e3, h3, hm⟩ := l05Draw_l0 (8 - l.length) l 500000 a2 s2 h2 (by omega)
        exact ⟨m, a3, s3, e0.bind (ev_bind0 e1 (ev_bind0 e2 (ev_neg g0 (ev_neg g1 (ev_pos g2 e3))))), h3, hm⟩
      · by_cases g3 : x2 = 3
        · exact ⟨_, _, _, e0.bind (ev_bind0 e1 (ev_bind0 e2 (ev_neg g0 (ev_neg g1 (ev_neg g2 (ev_pos g3 (ev_pos (by omega) (Ev.now _)))))))), h2, by simp⟩
        · exact ⟨_, _, _, e0.bind (ev_bind0 e1 (ev_bind0 e2 (ev_neg g0 (ev_neg g1 (ev_neg g2 (ev_neg g3 (Ev.now _))))))), h2, by show l.length ≤ 8; omega⟩
theorem l05Height_j0 {c : List Int} {a s : Int} (h : Src c a s) (l : List S55) (hl : l.length ≤ 1000) (b : Bool) (hb : b = true → 1 ≤ l.length) : ∃ x a' s', Ev (fun k => spec_l05Height.j0 k l b c a s) (x, a', s') ∧ Src c a' s' := by
  cases b with
  | true =>
    have := hb rfl
    obtain ⟨x1, a1, s1, e1, h1, b1, c1, _⟩ := l01Next_some h (n := (l.length : Int)) (by omega)
    have c1 := c1 (by omega)
    obtain ⟨x2, a2, s2, e2, h2, _⟩ := l01Next_some h1 (n := 1000) (by omega)
    obtain ⟨x3, a3, s3, e3, h3, _⟩ := l01Pick_some h2 (l := [(rd_T55 l x1).f0, wrap64 (((rd_T55 l x1).f0) - 1), wrap64 (((rd_T55 l x1).f0) + 1), wrap64 (((rd_T55 l x1).f0) - x2)]) (by simp) (by simp)
    exact ⟨_, _, _, Ev.step (fun k => spec_l05Height.j0.eq_2 ..) (ev_pos rfl (ev_bind0 e1 (ev_pos b1 (ev_pos c1 (ev_bind0 e2 (ev_bind0 e3 (Ev.now _))))))), h3⟩
  | false =>
    obtain ⟨x1, a1, s1, e1, h1, _⟩ := l01Next_some h (n := 300000) (by omega)
    obtain ⟨x2, a2, s2, e2, h2, _⟩ := l01Next_some h1 (n := 100000) (by omega)
    obtain ⟨x3, a3, s3, e3, h3, _⟩ := l01Pick_some h2 (l := [x1, 0, 1000000, 1000001, x2]) (by simp) (by simp)
    exact ⟨_, _, _, Ev.step (fun k => spec_l05Height.j0.eq_2 ..) (ev_neg (by decide) (ev_bind0 e1 (ev_bind0 e2 (ev_bind0 e3 (Ev.now _))))), h3⟩
theorem l05Height_ev {c : List Int} {a s : Int} (h : Src c a s) (l : List S55) (hl : l.length ≤ 1000) : ∃ x a' s', Ev (fun k => spec_l05Height.f k c a s l) (x, a', s') ∧ Src c a' s' := by
  by_cases g : (l.length : Int) > 0
  · obtain ⟨x1, a1, s1, e1, h1, _⟩ := l01Next_some h (n := 3) (by omega)
    obtain ⟨x, a', s', e, h'⟩ := l05Height_j0 h1 l hl (decide (x1 > 0)) (fun _ => by omega)
    exact ⟨x, a', s', ev_pos g (ev_bind0 e1 e), h'⟩
  · obtain ⟨x, a', s', e, h'⟩ := l05Height_j0 h l hl false (fun h => by cases h)
    exact ⟨x, a', s', ev_neg g e, h'⟩
theorem l04Side_some {c : List Int} {a s : Int} (h : Src c a s) : ∃ x a' s', spec_l04Side.f c a s = some (x, a', s') ∧ Src c a' s' := by
  obtain ⟨x1, a1, s1, e1, h1, b1, c1, _⟩ := l01Next_some h (n := 20001) (by omega)
  obtain ⟨x2, a2, s2, e2, h2, b2, c2, _⟩ := l01Next_some h1 (n := 2001) (by omega)
  obtain ⟨x3, a3, s3, e3, h3, b3, c3, _⟩ := l01Next_some h2 (n := 20001) (by omega)
  obtain ⟨x4, a4, s4, e4, h4, b4⟩ := l01Pick_some h3 (l := [50000, (-50000), 50001]) (by simp) (by simp)
  obtain ⟨x5, a5, s5, e5, h5, b5⟩ := l01Pick_some h4 (l := [wrap64 (x1 - 10000), wrap64 (x2 - 1000), 0, wrap64 (x3 - 10000), x4]) (by simp) (by simp)
  refine ⟨x5, a5, s5, ?_, h5⟩
  unfold spec_l04Side.f
  simp only [e1, e2, e3, e4, e5, Option.bind_some]
theorem DrawWiden_ev {c : List Int} (hc : Code c) : ∃ l h m, Ev (fun k => spec_DrawWidenWind.f k c) (l, h, m) ∧ l.length ≤ 8 := by
  obtain ⟨s, e, h⟩ := l01From_ev hc
  obtain ⟨l, a0, s0, e0, h0, hl⟩ := l05Draw_ev h
  obtain ⟨x, a1, s1, e1, h1⟩ := l05Height_ev h0 l (by omega)
  obtain ⟨y, a2, s2, e2, h2⟩ := l04Side_some h1
  exact ⟨_, _, _, e.bind (e0.bind (e1.bind (ev_bind0 e2 (Ev.now _)))), hl⟩
theorem DrawGust_l0 {c : List Int} (l : List S55) (hl : l.length ≤ 8) : ∀ (d : Nat) (x y : List Int) (a s : Int), Src c a s → x.length + d ≤ 20 → y.length + d ≤ 20 → ∃ p q, Ev (fun k => spec_DrawFirstGust.l0 k l x y (d : Int) c a s) (l, p, q) ∧ p.length ≤ 30 ∧ q.length ≤ 30 := by
  intro d
  induction d with
  | zero =>
    intro x y a s h hx hy
    obtain ⟨x1, a1, s1, e1, h1, _⟩ := l01Next_some h (n := 24) (by omega)
    by_cases g : x1 = 0
    · exact ⟨_, _, Ev.step (fun k => spec_DrawFirstGust.l0.eq_2 ..) (ev_neg (by omega) (ev_bind0 e1 (ev_pos g (ev_pos (by omega) (Ev.now _))))), by omega, by simp; omega⟩
    · exact ⟨_, _, Ev.step (fun k => spec_DrawFirstGust.l0.eq_2 ..) (ev_neg (by omega) (ev_bind0 e1 (ev_neg g (Ev.now _)))), by omega, by omega⟩
  | succ d ih =>
    intro x y a s h hx hy
    obtain ⟨u, a1, s1, e1, h1⟩ := l05Height_ev h l (by omega)
    obtain ⟨v, a2, s2, e2, h2⟩ := l04Side_some h1
    have ew : wrap64 (((d + 1 : Nat) : Int) - 1) = (d : Int) := by rw [w64 (by omega) (by omega)]; omega
    have j1 : ∀ (b : Bool) (a s : Int), Src c a s → (b = true → 1 ≤ l.length) → ∃ p q, Ev (fun k => spec_DrawFirstGust.j1 k l x y ((d + 1 : Nat) : Int) u v b c a s) (l, p, q) ∧ p.length ≤ 30 ∧ q.length ≤ 30 := by
      intro b a s hs hb
      cases b with
      | true =>
        have := hb rfl
        obtain ⟨x3, a3, s3, e3, h3, b3, c3, _⟩ := l01Next_some hs (n := (l.length : Int)) (by omega)
        have c3 := c3 (by omega)
        obtain ⟨x4, a4, s4, e4, h4, _⟩ := l01Pick_some h3 (l := [(rd_T55 l x3).f1, (rd_T55 l x3).f2, (rd_T55 l x3).f1, (rd_T55 l x3).f2, wrap64 (((rd_T55 l x3).f2) + 1)]) (by simp) (by simp)
        obtain ⟨p, q, e, hp, hq⟩ := ih (x ++ [(rd_T55 l x3).f0]) (y ++ [x4]) a4 s4 h4 (by simp; omega) (by simp; omega)
        refine ⟨p, q, Ev.step (fun k => spec_DrawFirstGust.j1.eq_2 ..) (ev_pos rfl (ev_bind0 e3 (ev_pos b3 (ev_pos c3 (ev_bind0 e4 (ev_pos (by omega) (ev_pos (by omega) ?_))))))), hp, hq⟩
        rw [ew]; exact e
      | false =>
        obtain ⟨p, q, e, hp, hq⟩ := ih (x ++ [u]) (y ++ [v]) a s hs (by simp; omega) (by simp; omega)
        refine ⟨p, q, Ev.step (fun k => spec_DrawFirstGust.j1.eq_2 ..) (ev_neg (by decide) (ev_pos (by omega) (ev_pos (by omega) ?_))), hp, hq⟩
        rw [ew]; exact e
    by_cases g : (l.length : Int) > 0
    · obtain ⟨x3, a3, s3, e3, h3, _⟩ := l01Next_some h2 (n := 4) (by omega)
      obtain ⟨p, q, e, hp, hq⟩ := j1 (decide (x3 > 0)) a3 s3 h3 (fun _ => by omega)
      exact ⟨p, q, Ev.step (fun k => spec_DrawFirstGust.l0.eq_2 ..) (ev_pos (by omega) (e1.bind (ev_bind0 e2 (ev_pos g (ev_bind0 e3 e))))), hp, hq⟩
    · obtain ⟨p, q, e, hp, hq⟩ := j1 false a2 s2 h2 (fun h => by cases h)
      exact ⟨p, q, Ev.step (fun k => spec_DrawFirstGust.l0.eq_2 ..) (ev_pos (by omega) (e1.bind (ev_bind0 e2 (ev_neg g e)))), hp, hq⟩
theorem DrawGust_ev {c : List Int} (hc : Code c) : ∃ l x y, Ev (fun k => spec_DrawFirstGust.f k c) (l, x, y) ∧ l.length ≤ 8 ∧ x.length ≤ 30 ∧ y.length ≤ 30 := by
  obtain ⟨s, e, h⟩ := l01From_ev hc
  obtain ⟨l, a0, s0, e0, h0, hl⟩ := l05Draw_ev h
  obtain ⟨x1, a1, s1, e1, h1, b1, c1, _⟩ := l01Next_some h0 (n := 7) (by omega)
  have c1 := c1 (by omega)
  obtain ⟨p, q, e2, hp, hq⟩ := DrawGust_l0 l hl x1.toNat [] [] a1 s1 h1 (by simp; omega) (by simp; omega)
  refine ⟨l, p, q, e.bind (e0.bind (ev_bind0 e1 ?_)), hl, hp, hq⟩
  dsimp only
  rw [show x1 = ((x1.toNat : Nat) : Int) by omega]
  exact e2
theorem likeLayers_l0 (l : List S55) (hl : l.length ≤ 1000000000) : ∀ (R : List S55) (i : Nat), l.drop i = R → Ev (fun k => laws_likeLayers.l0 k l l i) true := by
  intro R
  induction R with
  | nil =>
    intro i h
    have := drop_nil h
    exact Ev.step (fun k => laws_likeLayers.l0.eq_2 ..) (ev_neg (by omega) (Ev.now _))
  | cons c R ih =>
    intro i h
    obtain ⟨h1, h2, h3⟩ := rdOf_drop (d := z55) h
    refine Ev.step (fun k => laws_likeLayers.l0.eq_2 ..) (ev_pos (by omega) (ev_pos (by omega) (ev_pos (by omega) (ev_neg (by simp) ?_))))
    rw [w64 (n := (i : Int) + 1) (by omega) (by omega)]
    exact ih (i + 1) h3
theorem likeLayers_ev (l : List S55) (hl : l.length ≤ 1000000000) : Ev (fun k => laws_likeLayers.f k l l) true := by
  have h := likeLayers_l0 l hl l 0 rfl
  exact ev_pos rfl h
theorem findF_set (h : Int) (d : S55) : ∀ (R : List S55) (i n : Nat), (∀ c, R[n]? = some c → c.f0 = d.f0) → findF h (R.set n d) i = findF h R i
  | [], i, n, _ => rfl
  | c :: R, i, 0, e => by
    have := e c rfl
    rw [List.set_cons_zero]; unfold findF; rw [this]
  | c :: R, i, n + 1, e => by
    rw [List.set_cons_succ]; unfold findF
    rw [findF_set h d R (i + 1) n (fun x hx => e x (by simpa using hx))]
theorem profL_set (d : S55) (hd : layB d = true) : ∀ (p : Option S55) (R : List S55) (n : Nat), (∀ c, R[n]? = some c → c.f0 = d.f0) → profL p R = true → profL p (R.set n d) = true
  | p, [], n, _, h => by simpa using h
  | p, c :: R, 0, e, h => by
    have hc := e c rfl
    rw [List.set_cons_zero]
    have hq : ∀ x : S55, profL (some c) R = true → profL (some d) R = true := by
      intro _ hx
      cases R with
      | nil => rfl
      | cons y R => simp only [profL, Bool.and_eq_true, decide_eq_true_eq] at hx ⊢; rw [← hc]; exact hx
    cases p with
    | none => simp only [profL, Bool.and_eq_true] at h ⊢; exact ⟨hd, hq c h.2⟩
    | some q => simp only [profL, Bool.and_eq_true, decide_eq_true_eq] at h ⊢; exact ⟨hd, by rw [← hc]; exact h.2.1, hq c h.2.2⟩
  | p, c :: R, n + 1, e, h => by
    rw [List.set_cons_succ]
    have ih := profL_set d hd (some c) R n (fun x hx => e x (by simpa using hx))
    cases p with
    | none => simp only [profL, Bool.and_eq_true] at h ⊢; exact ⟨h.1, ih h.2⟩
    | some q => simp only [profL, Bool.and_eq_true, decide_eq_true_eq] at h ⊢; exact ⟨h.1, h.2.1, ih h.2.2⟩
theorem profL_mem : ∀ (p : Option S55) (R : List S55), profL p R = true → ∀ c ∈ R, layB c = true
  | p, [], _, c, hc => by simp at hc
  | none, x :: R, h, c, hc => by
    simp only [profL, Bool.and_eq_true] at h
    rcases List.mem_cons.1 hc with rfl | hc
    · exact h.1
    · exact profL_mem _ R h.2 c hc
  | some q, x :: R, h, c, hc => by
    simp only [profL, Bool.and_eq_true] at h
    rcases List.mem_cons.1 hc with rfl | hc
    · exact h.1
    · exact profL_mem _ R h.2.2 c hc
theorem rd_at {l : List S55} {t : Int} (h0 : 0 ≤ t) (h1 : t < l.length) : l[t.toNat]? = some (rd_T55 l t) := by
  have hi : t.toNat < l.length := by omega
  unfold rd_T55
  rw [List.getD_eq_getElem?_getD, List.getElem?_eq_getElem hi]; rfl
theorem count_l0 (l w : List S55) (t : Nat) (d : S55) (hw : w = l.set t d) (hl : l.length ≤ 1000) (m a b : Int) (x24 : Int) (hx : x24 = 0) (h1 : a ≤ m) (h2 : m ≤ b) (hp : profB w = true) : ∀ (R : List S55) (i : Nat) (n : Int), w.drop i = R → 0 ≤ n → n ≤ 1 → (i ≤ t → n = 0) →
    Ev (fun k => laws_FnGusts.l0 k l m w a b x24 n i) true := by
  have hlen : w.length = l.length := by rw [hw, List.length_set]
  intro R
  induction R with
  | nil =>
    intro i n h n0 n1 _
    have := drop_nil h
    have e := impl_IsProfile_ev w (by omega)
    rw [hp] at e
    exact Ev.step (fun k => laws_FnGusts.l0.eq_2 ..) (ev_neg (by omega) (ev_pos hx (ev_pos h1 (ev_pos h2 (ev_pos n1 (e.bind (Ev.now _)))))))
  | cons c R ih =>
    intro i n h n0 n1 nt
    obtain ⟨g1, g2, g3⟩ := rdOf_drop (d := z55) h
    refine Ev.step (fun k => laws_FnGusts.l0.eq_2 ..) (ev_pos (by omega) (ev_pos (by omega) (ev_pos (by omega) ?_)))
    rw [w64 (n := (i : Int) + 1) (by omega) (by omega), w64 (n := n + 1) (by omega) (by omega)]
    by_cases it : i = t
    · subst it
      have nz := nt (Nat.le_refl _)
      by_cases q : (!(((rd_T55 w (i : Int)).f0) == ((rd_T55 l (i : Int)).f0)) || (!(((rd_T55 w (i : Int)).f1) == ((rd_T55 l (i : Int)).f1)) || (!(((rd_T55 w (i : Int)).f2) == ((rd_T55 l (i : Int)).f2))))) = true
      · exact ev_pos q (ih (i + 1) (n + 1) g3 (by omega) (by omega) (by omega))
      · exact ev_neg q (ih (i + 1) n g3 n0 n1 (by omega))
    · have e : rd_T55 w (i : Int) = rd_T55 l (i : Int) := by
        unfold rd_T55
        rw [hw, Int.toNat_natCast, List.getD_eq_getElem?_getD, List.getD_eq_getElem?_getD, List.getElem?_set_ne (by omega)]
      refine ev_neg (by rw [e]; simp) (ih (i + 1) n g3 n0 n1 (fun h => nt (by omega)))
theorem j2_true (l : List S55) (hl : l.length ≤ 8) (h m : Int) : Ev (fun k => laws_FnGusts.j2 k l h m (widenM l h m).1 (widenM l h m).2) true := by
  unfold widenM
  by_cases g : codeM l (sideH h m) = 0
  · obtain ⟨hm, he⟩ := sideH_in g
    rw [he] at g ⊢
    obtain ⟨pa, pb, pc⟩ := codeM_zero g
    have hlt := findM_lt l h
    simp only [g, if_true]
    have hat := rd_at pc hlt
    have hmem : rd_T55 l (findM l h) ∈ l := List.mem_of_getElem? hat
    have hpl : profL none l = true := by unfold profB at pa; simp only [Bool.and_eq_true] at pa; exact pa.2
    have hlb := profL_mem none l hpl _ hmem
    have hd : layB (widC (rd_T55 l (findM l h)) m) = true := by
      unfold layB at hlb ⊢
      simp only [Bool.and_eq_true, decide_eq_true_eq] at hlb ⊢
      unfold widC mn mx
      dsimp only
      refine ⟨hlb.1, ?_, ?_⟩
      · split <;> omega
      · constructor
        · split <;> split <;> omega
        · split <;> omega
    have hf0 : ∀ c, l[(findM l h).toNat]? = some c → c.f0 = (widC (rd_T55 l (findM l h)) m).f0 := by
      intro c hc; rw [hat] at hc; injection hc with hc; rw [← hc]; rfl
    have hpw : profB (widL l h m) = true := by
      unfold profB at pa ⊢
      simp only [Bool.and_eq_true] at pa ⊢
      refine ⟨by unfold widL; rw [List.length_set]; exact pa.1, profL_set _ hd none l _ hf0 hpl⟩
    have hfw : findM (widL l h m) h = findM l h := findF_set h _ l 0 _ hf0
    have hcw : codeM (widL l h m) h = 0 := by unfold codeM; rw [if_pos hpw, if_pos pb, hfw, if_neg (by omega)]
    have ew := impl_WindAt_ev (widL l h m) (by unfold widL; rw [List.length_set]; omega) h
    rw [windM_eq, if_pos hcw, hfw] at ew
    have er : rd_T55 (widL l h m) (findM l h) = widC (rd_T55 l (findM l h)) m := rd_set l pc hlt _
    rw [er] at ew
    refine Ev.step (fun k => laws_FnGusts.j2.eq_2 ..) (ev_pos rfl (ew.bind ?_))
    exact count_l0 l (widL l h m) (findM l h).toNat _ rfl (by omega) m _ _ 0 rfl (by unfold widC mn; dsimp only; split <;> omega) (by unfold widC mx; dsimp only; split <;> omega) hpw _ 0 0 rfl (by omega) (by omega) (fun _ => rfl)
  · simp only [g, if_false]
    exact Ev.step (fun k => laws_FnGusts.j2.eq_2 ..) (ev_neg g (Ev.now _))
theorem main : laws_FnGusts.Pure := by
  intro c _ _ hw
  apply Ev.rounds
  unfold laws_FnGusts.f
  by_cases g : (c.length : Int) > 4096
  · exact ev_bind0 (big_true g) (ev_pos rfl (Ev.now _))
  refine ev_bind0 (big_false g) (ev_neg (by decide) ?_)
  have hc := code_of hw g
  obtain ⟨l, h, m, el, hl⟩ := DrawWiden_ev hc
  obtain ⟨l2, x, y, eg, hl2, hx, hy⟩ := DrawGust_ev hc
  have hwl : (widenM l h m).1.length ≤ 8 := by
    unfold widenM
    split
    · show (widL l h m).length ≤ 8
      unfold widL; rw [List.length_set]; exact hl
    · simp
  have i1 := impl_FirstGust_ev l2 x y (by omega) (by omega) (by omega)
  have i2 := spec_FirstGust_ev l2 x y (by omega) (by omega)
  have fin := j2_true l hl h m
  refine el.bind ((impl_WidenWind_ev l (by omega) h m).bind ((spec_WidenWind_ev l (by omega) h m).bind (eg.bind (i1.bind (i2.bind (ev_pos rfl ((likeLayers_ev _ (by omega)).bind (ev_pos rfl (ev_pos rfl ?_)))))))))
  refine Ev.step (fun k => laws_FnGusts.j0.eq_2 ..) (ev_neg (by simp) ?_)
  by_cases e : (gustM l2 x y).2 = 0
  · refine ev_pos e ?_
    generalize hq : gustM l2 x y = q at e
    obtain ⟨q1, q2⟩ := q
    simp only at e
    subst e
    unfold gustM at hq
    by_cases a : profB l2 = true
    · rw [if_pos a] at hq
      by_cases b : x.length = y.length
      · rw [if_pos b] at hq
        by_cases d : gustA x y
        · rw [if_pos d] at hq
          obtain ⟨f1, f2, f3, f4, f5⟩ := gustL_found l2 x y 0 q1 hq b
          simp only [Int.natCast_zero, Int.sub_zero] at f2 f3 f4 f5
          have f0 : 0 ≤ q1 := by simpa using f1
          have hmem : rd x q1 ∈ x := by
            have hi : q1.toNat < x.length := by omega
            unfold rd
            rw [List.getD_eq_getElem?_getD, List.getElem?_eq_getElem hi]; exact List.getElem_mem hi
          have hr := d.1 _ hmem
          have hcode : codeM l2 (rd x q1) = 0 := by
            unfold codeM
            rw [if_pos a, if_pos hr, if_neg (show ¬ findM l2 (rd x q1) < 0 from by have : 0 ≤ findM l2 (rd x q1) := f3; omega)]
          have ew := impl_WindAt_ev l2 (by omega) (rd x q1)
          rw [windM_eq, if_pos hcode] at ew
          have f4' : ¬ ((rd_T55 l2 (findM l2 (rd x q1))).f1 ≤ rd y q1 ∧ rd y q1 ≤ (rd_T55 l2 (findM l2 (rd x q1))).f2) := f4
          have fj : Ev (fun k => laws_FnGusts.j1 k l h m (widenM l h m).1 (widenM l h m).2 l2 x y q1 false) true := by
            have et : gustM l2 (x.take q1.toNat) (y.take q1.toNat) = (0, 4) := by
              unfold gustM
              rw [if_pos a, if_pos (by rw [List.length_take, List.length_take, b]), if_pos (show gustA (x.take q1.toNat) (y.take q1.toNat) from ⟨fun n hn => d.1 n (List.mem_of_mem_take hn), fun n hn => d.2 n (List.mem_of_mem_take hn)⟩)]
              exact f5 0
            have ei := impl_FirstGust_ev l2 (x.take q1.toNat) (y.take q1.toNat) (by omega) (by rw [List.length_take]; omega) (by rw [List.length_take]; omega)
            rw [et] at ei
            exact Ev.step (fun k => laws_FnGusts.j1.eq_2 ..) (ev_neg (by decide) (ev_pos f0 (ev_pos (by omega) (ev_pos (by omega) (ei.bind (ev_pos rfl (ev_pos rfl fin)))))))
          refine ev_pos f0 (ev_pos f2 (ew.bind (ev_pos rfl (ev_pos (show q1 < (y.length : Int) from by omega) ?_))))
          by_cases u : rd y q1 ≥ (rd_T55 l2 (findM l2 (rd x q1))).f1
          · refine ev_pos u ?_
            rw [show decide (rd y q1 ≤ (rd_T55 l2 (findM l2 (rd x q1))).f2) = false from decide_eq_false (fun z => f4' ⟨u, z⟩)]
            exact fj
          · exact ev_neg u fj
        · rw [if_neg d] at hq; simp at hq
      · rw [if_neg b] at hq; simp at hq
    · rw [if_neg a] at hq; simp at hq
  · exact ev_neg e fin

end Go.Proofs.Ytidibjmckgbpbaa.PureFnGusts
namespace Go.Proofs.Ytidibjmckgbpbaa.Pure
theorem FnGusts : QFnGusts.laws_FnGusts.Pure := PureFnGusts.main
end Go.Proofs.Ytidibjmckgbpbaa.Pure
