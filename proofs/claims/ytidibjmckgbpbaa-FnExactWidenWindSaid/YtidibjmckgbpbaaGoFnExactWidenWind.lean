/- WidenWind answers what the reference's answers, for all arguments; no condition. -/
import Derived.Test.YtidibjmckgbpbaaMa
import Derived.Test.YtidibjmckgbpbaaQFnExactWidenWindx
import Derived.Test.YtidibjmckgbpbaaHandFnExactWidenWind
namespace Go.Proofs.Ytidibjmckgbpbaa.GoFnExactWidenWind
open Go.RowKit Go.Proofs.Ytidibjmckgbpbaa.QFnExactWidenWind Go.Proofs.YtidibjmckgbpbaaW.PrintWords Go.Proofs.YtidibjmckgbpbaaW.PrintLast Go.Proofs.Ytidibjmckgbpbaa.Ma Go.Proofs.Ytidibjmckgbpbaa.HandFnExactWidenWind
set_option linter.unusedVariables false
set_option linter.unusedSimpArgs false

/-! ### division, ranges -/
theorem in_eq (a b c : Int) : spec_l01In.f a b c = some (decide (b ≤ a ∧ a ≤ c)) := by
  unfold spec_l01In.f
  by_cases h : b ≤ a <;> simp [h]
theorem within_eq (a b c : Int) : impl_within.f a b c = some (decide (b ≤ a ∧ a ≤ c)) := by
  unfold impl_within.f
  by_cases h : b ≤ a <;> simp [h]
theorem tdiv_floor {a b : Int} (hb : 0 < b) : (Int.tmod a b < 0 → Int.tdiv a b - 1 = a / b) ∧ (¬ Int.tmod a b < 0 → Int.tdiv a b = a / b) := by
  have h1 := Int.tdiv_eq_ediv (a := a) (b := b)
  have h2 := Int.tmod_eq_emod (a := a) (b := b)
  have h3 := Int.emod_nonneg a (show b ≠ 0 by omega)
  have h4 := Int.emod_lt_of_pos a hb
  by_cases h : 0 ≤ a ∨ b ∣ a
  · rw [if_pos h] at h1 h2
    omega
  · rw [if_neg h] at h1 h2
    rw [Int.sign_eq_one_of_pos hb] at h1
    omega
theorem ediv_small {a b : Int} (hb : 0 < b) (h : -4611686018427387904 ≤ a) (h' : a ≤ 4611686018427387904) : -4611686018427387904 ≤ a / b ∧ a / b ≤ 4611686018427387904 := by
  have h1 : -4611686018427387904 * b ≤ a := by
    have := Int.mul_le_mul_of_nonneg_left (show 1 ≤ b by omega) (show (0 : Int) ≤ 4611686018427387904 by omega); omega
  have h2 : a < (4611686018427387904 + 1) * b := by
    have := Int.mul_le_mul_of_nonneg_left (show 1 ≤ b by omega) (show (0 : Int) ≤ 4611686018427387905 by omega); omega
  have h3 := (Int.le_ediv_iff_mul_le hb).2 h1
  have h4 := (Int.ediv_lt_iff_lt_mul hb).2 h2
  omega
/-! ### profiles -/
def layB (x : S55) : Bool := decide (1 ≤ x.f0 ∧ x.f0 ≤ 1000000) && (decide (-50000 ≤ x.f1 ∧ x.f1 ≤ 50000) && decide (x.f1 ≤ x.f2 ∧ x.f2 ≤ 50000))
def profL : Option S55 → List S55 → Bool
  | _, [] => true
  | none, x :: R => layB x && profL (some x) R
  | some q, x :: R => layB x && (decide (q.f0 < x.f0) && profL (some x) R)
def profB (m : List S55) : Bool := decide (1 ≤ m.length ∧ m.length ≤ 6) && profL none m
def prevAt (l : List S55) (i : Nat) : Option S55 := if i = 0 then none else some (rdOf z55 l ((i : Int) - 1))
theorem prev_next {l R : List S55} {i : Nat} {c : S55} (h : l.drop i = c :: R) : prevAt l (i + 1) = some c := by
  obtain ⟨h1, h2, h3⟩ := rdOf_drop (d := z55) h
  unfold prevAt
  rw [if_neg (by omega), show ((i + 1 : Nat) : Int) - 1 = (i : Int) by omega, h2]
theorem spec_IsProfile_l0 (l : List S55) (hl : l.length ≤ 4611686018427387904) : ∀ (R : List S55) (i : Nat), l.drop i = R → Ev (fun k => spec_IsProfile.l0 k l i) (profL (prevAt l i) R && decide (1 ≤ l.length ∧ l.length ≤ 6)) := by
  intro R
  induction R with
  | nil =>
    intro i h
    have := drop_nil h
    refine Ev.step (fun k => spec_IsProfile.l0.eq_2 ..) (ev_neg (by omega) (ev_bind0 (in_eq ..) (ev_ret ?_)))
    have e : profL (prevAt l i) [] = true := by unfold profL; rfl
    rw [e, Bool.true_and]
    exact decide_eq_decide.2 (by omega)
  | cons c R ih =>
    intro i h
    obtain ⟨h1, h2, h3⟩ := rdOf_drop (d := z55) h
    have h2' : rd_T55 l (i : Int) = c := h2
    refine Ev.step (fun k => spec_IsProfile.l0.eq_2 ..) (ev_pos (by omega) (ev_pos (by omega) ?_))
    rw [h2', w64 (n := (i : Int) + 1) (by omega) (by omega)]
    have hn := ih (i + 1) h3
    rw [prev_next h] at hn
    refine ev_bind0 (in_eq ..) ?_
    by_cases a : 1 ≤ c.f0 ∧ c.f0 ≤ 1000000
    · refine ev_pos (by simpa using a) (ev_bind0 (in_eq ..) ?_)
      by_cases b : -50000 ≤ c.f1 ∧ c.f1 ≤ 50000
      · refine ev_pos (by simpa using b) (ev_bind0 (in_eq ..) ?_)
        by_cases d : c.f1 ≤ c.f2 ∧ c.f2 ≤ 50000
        · refine ev_pos (by simpa using d) ?_
          have hc : layB c = true := by unfold layB; simp [a, b, d]
          by_cases g : (i : Int) > 0
          · refine ev_pos g ?_
            rw [w64 (n := (i : Int) - 1) (by omega) (by omega)]
            refine ev_pos (by omega) (ev_pos (by omega) ?_)
            have hp : prevAt l i = some (rdOf z55 l ((i : Int) - 1)) := by unfold prevAt; rw [if_neg (by omega)]
            rw [hp]
            by_cases u : (rd_T55 l ((i : Int) - 1)).f0 ≥ c.f0
            · refine ev_pos u (ev_ret ?_)
              have u' : ¬ (rdOf z55 l ((i : Int) - 1)).f0 < c.f0 := by
                have : rd_T55 l ((i : Int) - 1) = rdOf z55 l ((i : Int) - 1) := rfl
                rw [← this]; omega
              simp [profL, u']
            · refine ev_neg u ?_
              have u' : (rdOf z55 l ((i : Int) - 1)).f0 < c.f0 := by
                have : rd_T55 l ((i : Int) - 1) = rdOf z55 l ((i : Int) - 1) := rfl
                rw [← this]; omega
              have e : profL (some (rdOf z55 l ((i : Int) - 1))) (c :: R) = profL (some c) R := by simp [profL, hc, u']
              rw [e]; exact hn
          · refine ev_neg g ?_
            have hp : prevAt l i = none := by unfold prevAt; rw [if_pos (by omega)]
            have e : profL none (c :: R) = profL (some c) R := by simp [profL, hc]
            rw [hp, e]; exact hn
        · refine ev_neg (by simpa using d) (ev_ret ?_)
          have hc : layB c = false := by unfold layB; simp [d]
          cases prevAt l i <;> simp [profL, hc]
      · refine ev_neg (by simpa using b) (ev_ret ?_)
        have hc : layB c = false := by unfold layB; simp [b]
        cases prevAt l i <;> simp [profL, hc]
    · refine ev_neg (by simpa using a) (ev_ret ?_)
      have hc : layB c = false := by unfold layB; simp [a]
      cases prevAt l i <;> simp [profL, hc]
theorem spec_IsProfile_ev (l : List S55) (hl : l.length ≤ 4611686018427387904) : Ev (fun k => spec_IsProfile.f k l) (profB l) := by
  have h := spec_IsProfile_l0 l hl l 0 rfl
  have e : profB l = (profL (prevAt l 0) l && decide (1 ≤ l.length ∧ l.length ≤ 6)) := by unfold profB prevAt; rw [if_pos rfl, Bool.and_comm]
  rw [e]; exact h
theorem isSide_eq (n : Int) : impl_isSide.f n = some (decide (-50000 ≤ n ∧ n ≤ 50000)) := by unfold impl_isSide.f; rw [within_eq]; rfl
theorem areWinds_eq (a b : Int) : impl_areWinds.f a b = some (decide (-50000 ≤ a ∧ a ≤ 50000) && decide (a ≤ b ∧ b ≤ 50000)) := by
  unfold impl_areWinds.f
  rw [isSide_eq, isSide_eq]
  simp only [Option.bind_some]
  by_cases h : -50000 ≤ a ∧ a ≤ 50000
  · rw [if_pos (by simpa using h)]
    by_cases g : -50000 ≤ b ∧ b ≤ 50000
    · rw [if_pos (by simpa using g)]
      simp [h]; omega
    · rw [if_neg (by simpa using g)]
      simp [h]; omega
  · rw [if_neg (by simpa using h)]
    simp [h]
theorem impl_IsProfile_l0 (l : List S55) (hl : l.length ≤ 4611686018427387904) : ∀ (R : List S55) (i : Nat), l.drop i = R → Ev (fun k => impl_IsProfile.l0 k l l (l.length : Int) i) (profL (prevAt l i) R) := by
  intro R
  induction R with
  | nil =>
    intro i h
    have := drop_nil h
    refine Ev.step (fun k => impl_IsProfile.l0.eq_2 ..) (ev_neg (by omega) (ev_ret ?_))
    unfold profL; rfl
  | cons c R ih =>
    intro i h
    obtain ⟨h1, h2, h3⟩ := rdOf_drop (d := z55) h
    have h2' : rd_T55 l (i : Int) = c := h2
    refine Ev.step (fun k => impl_IsProfile.l0.eq_2 ..) (ev_pos (by omega) (ev_pos (by omega) (ev_pos (by omega) ?_)))
    rw [h2', w64 (n := (i : Int) + 1) (by omega) (by omega)]
    have hn := ih (i + 1) h3
    rw [prev_next h] at hn
    refine ev_bind0 (within_eq ..) ?_
    by_cases a : 1 ≤ c.f0 ∧ c.f0 ≤ 1000000
    · refine ev_pos (by simpa using a) (ev_bind0 (areWinds_eq ..) ?_)
      by_cases b : (decide (-50000 ≤ c.f1 ∧ c.f1 ≤ 50000) && decide (c.f1 ≤ c.f2 ∧ c.f2 ≤ 50000)) = true
      · refine ev_pos b ?_
        have hc : layB c = true := by unfold layB; rw [b]; simp [a]
        by_cases g : (i : Int) > 0
        · refine ev_pos g ?_
          rw [w64 (n := (i : Int) - 1) (by omega) (by omega)]
          refine ev_pos (by omega) (ev_pos (by omega) ?_)
          have hp : prevAt l i = some (rdOf z55 l ((i : Int) - 1)) := by unfold prevAt; rw [if_neg (by omega)]
          rw [hp]
          by_cases u : (rd_T55 l ((i : Int) - 1)).f0 ≥ c.f0
          · refine ev_pos u (ev_ret ?_)
            have u' : ¬ (rdOf z55 l ((i : Int) - 1)).f0 < c.f0 := by
              have : rd_T55 l ((i : Int) - 1) = rdOf z55 l ((i : Int) - 1) := rfl
              rw [← this]; omega
            simp [profL, u']
          · refine ev_neg u ?_
            have u' : (rdOf z55 l ((i : Int) - 1)).f0 < c.f0 := by
              have : rd_T55 l ((i : Int) - 1) = rdOf z55 l ((i : Int) - 1) := rfl
              rw [← this]; omega
            have e : profL (some (rdOf z55 l ((i : Int) - 1))) (c :: R) = profL (some c) R := by simp [profL, hc, u']
            rw [e]; exact hn
        · refine ev_neg g ?_
          have hp : prevAt l i = none := by unfold prevAt; rw [if_pos (by omega)]
          have e : profL none (c :: R) = profL (some c) R := by simp [profL, hc]
          rw [hp, e]; exact hn
      · refine ev_neg b (ev_ret ?_)
        have hc : layB c = false := by unfold layB; simp only [Bool.not_eq_true] at b; rw [b]; simp
        cases prevAt l i <;> simp [profL, hc]
    · refine ev_neg (by simpa using a) (ev_ret ?_)
      have hc : layB c = false := by unfold layB; simp [a]
      cases prevAt l i <;> simp [profL, hc]
theorem impl_IsProfile_ev (l : List S55) (hl : l.length ≤ 4611686018427387904) : Ev (fun k => impl_IsProfile.f k l) (profB l) := by
  have h := impl_IsProfile_l0 l hl l 0 rfl
  have e0 : prevAt l 0 = none := by unfold prevAt; rw [if_pos rfl]
  rw [e0] at h
  unfold impl_IsProfile.f profB
  by_cases a : (l.length : Int) < 1
  · refine ev_pos a (Ev.step (fun k => impl_IsProfile.j0.eq_2 ..) (ev_pos rfl (ev_ret ?_)))
    simp; omega
  · refine ev_neg a (Ev.step (fun k => impl_IsProfile.j0.eq_2 ..) ?_)
    by_cases b : (l.length : Int) > 6
    · refine ev_pos (by simpa using b) (ev_ret ?_)
      simp; omega
    · refine ev_neg (by simpa using b) ?_
      have e : (decide (1 ≤ l.length ∧ l.length ≤ 6) && profL none l) = profL none l := by
        simp; intro _; omega
      rw [e]; exact h

/-! ### the first gust -/
def findF (h : Int) : List S55 → Nat → Int
  | [], _ => -1
  | c :: R, i => if h ≤ c.f0 then (i : Int) else findF h R (i + 1)
def findM (l : List S55) (h : Int) : Int := findF h l 0
theorem findF_lt (h : Int) : ∀ (R : List S55) (i : Nat), findF h R i < (i + R.length : Nat) ∧ -1 ≤ findF h R i
  | [], i => by unfold findF; constructor <;> omega
  | c :: R, i => by
    unfold findF
    have := findF_lt h R (i + 1)
    simp only [List.length_cons]
    split
    · omega
    · omega
theorem findM_lt (l : List S55) (h : Int) : findM l h < (l.length : Int) := by have := (findF_lt h l 0).1; unfold findM; omega
theorem impl_layerOf_l0 (l : List S55) (hl : l.length ≤ 4611686018427387904) (h : Int) : ∀ (R : List S55) (i : Nat), l.drop i = R → Ev (fun k => impl_layerOf.l0 k h l (l.length : Int) i) (findF h R i) := by
  intro R
  induction R with
  | nil =>
    intro i e
    have := drop_nil e
    exact Ev.step (fun k => impl_layerOf.l0.eq_2 ..) (ev_neg (by omega) (Ev.now _))
  | cons c R ih =>
    intro i e
    obtain ⟨h1, h2, h3⟩ := rdOf_drop (d := z55) e
    have h2' : rd_T55 l (i : Int) = c := h2
    refine Ev.step (fun k => impl_layerOf.l0.eq_2 ..) (ev_pos (by omega) (ev_pos (by omega) (ev_pos (by omega) ?_)))
    rw [h2', w64 (n := (i : Int) + 1) (by omega) (by omega)]
    unfold findF
    by_cases g : h ≤ c.f0
    · exact ev_pos g (ev_ret (by rw [if_pos g]))
    · rw [if_neg g]; exact ev_neg g (ih (i + 1) h3)
theorem impl_layerOf_ev (l : List S55) (hl : l.length ≤ 4611686018427387904) (h : Int) : Ev (fun k => impl_layerOf.f k l h) (findM l h) := impl_layerOf_l0 l hl h l 0 rfl
theorem spec_l05Find_l0 (l : List S55) (hl : l.length ≤ 4611686018427387904) (h : Int) : ∀ (R : List S55) (i : Nat), l.drop i = R → Ev (fun k => spec_l05Find.l0 k l h i) (findF h R i) := by
  intro R
  induction R with
  | nil =>
    intro i e
    have := drop_nil e
    exact Ev.step (fun k => spec_l05Find.l0.eq_2 ..) (ev_neg (by omega) (Ev.now _))
  | cons c R ih =>
    intro i e
    obtain ⟨h1, h2, h3⟩ := rdOf_drop (d := z55) e
    have h2' : rd_T55 l (i : Int) = c := h2
    refine Ev.step (fun k => spec_l05Find.l0.eq_2 ..) (ev_pos (by omega) (ev_pos (by omega) ?_))
    rw [h2', w64 (n := (i : Int) + 1) (by omega) (by omega)]
    unfold findF
    by_cases g : h ≤ c.f0
    · exact ev_pos g (ev_ret (by rw [if_pos g]))
    · rw [if_neg g]; exact ev_neg (by omega) (ih (i + 1) h3)
theorem spec_l05Find_ev (l : List S55) (hl : l.length ≤ 4611686018427387904) (h : Int) : Ev (fun k => spec_l05Find.f k l h) (findM l h) := spec_l05Find_l0 l hl h l 0 rfl
def windM (l : List S55) (h : Int) : Int × Int × Int :=
  if profB l = true then (if 0 ≤ h ∧ h ≤ 1000000 then (if findM l h < 0 then (0, 0, 4) else ((rd_T55 l (findM l h)).f1, (rd_T55 l (findM l h)).f2, 0)) else (0, 0, 2)) else (0, 0, 1)
theorem spec_l05Code_ev (l : List S55) (hl : l.length ≤ 1000000000) (h : Int) : Ev (fun k => spec_l05Code.f k l h) (if profB l = true then (if 0 ≤ h ∧ h ≤ 1000000 then (if findM l h < 0 then 4 else 0) else 2) else 1) := by
  refine (spec_IsProfile_ev l (by omega)).bind ?_
  by_cases a : profB l = true
  · refine ev_pos a (ev_bind0 (in_eq ..) ?_)
    by_cases b : 0 ≤ h ∧ h ≤ 1000000
    · refine ev_pos (by simpa using b) ((spec_l05Find_ev l (by omega) h).bind ?_)
      by_cases c : findM l h < 0
      · exact ev_pos c (ev_ret (by rw [if_pos a, if_pos b, if_pos c]))
      · exact ev_neg c (ev_ret (by rw [if_pos a, if_pos b, if_neg c]))
    · exact ev_neg (by simpa using b) (ev_ret (by rw [if_pos a, if_neg b]))
  · exact ev_neg a (ev_ret (by rw [if_neg a]))
theorem take_last (l : List S55) {t : Int} (h0 : 0 ≤ t) (h1 : t < l.length) : rd_T55 (l.take (t + 1).toNat) (((l.take (t + 1).toNat).length : Int) - 1) = rd_T55 l t := by
  have hl : (l.take (t + 1).toNat).length = (t + 1).toNat := by rw [List.length_take]; omega
  rw [hl, show (((t + 1).toNat : Nat) : Int) - 1 = t by omega]
  unfold rd_T55
  simp only [List.getD_eq_getElem?_getD, List.getElem?_take]
  rw [if_pos (by omega)]
theorem within_f (h : Int) : impl_within.f h 0 1000000 = some (decide (0 ≤ h ∧ h ≤ 1000000)) := within_eq ..

/-! ### the widest and the common wind, calm -/
def wideF : List S55 → Int × Int → Int × Int
  | [], r => r
  | c :: R, r => wideF R (mn r.1 c.f1, mx r.2 c.f2)
def commF : List S55 → Int × Int → Int × Int
  | [], r => r
  | c :: R, r => commF R (mx r.1 c.f1, mn r.2 c.f2)
def partM (l : List S55) (h : Int) : List S55 := l.take (findM l h + 1).toNat
def codeM (l : List S55) (h : Int) : Int := if profB l = true then (if 0 ≤ h ∧ h ≤ 1000000 then (if findM l h < 0 then 4 else 0) else 2) else 1
def wideR (l : List S55) (h : Int) : Int × Int := wideF (partM l h) ((rd_T55 l 0).f1, (rd_T55 l 0).f2)
def commR (l : List S55) (h : Int) : Int × Int := commF (partM l h) ((rd_T55 l 0).f1, (rd_T55 l 0).f2)
def wideM (l : List S55) (h : Int) : Int × Int × Int := if codeM l h = 0 then ((wideR l h).1, (wideR l h).2, 0) else (0, 0, codeM l h)
def commM (l : List S55) (h : Int) : Int × Int × Int := if codeM l h = 0 then (if (commR l h).1 > (commR l h).2 then (0, 0, 5) else ((commR l h).1, (commR l h).2, 0)) else (0, 0, codeM l h)
def calmL (R : List S55) (m : Int) : Bool := decide (∀ c ∈ R, -m ≤ c.f1 ∧ c.f2 ≤ m)
def calmH (h m : Int) : Int := if 0 ≤ m ∧ m ≤ 50000 then h else -1
def calmM (l : List S55) (h m : Int) : Bool × Int := if codeM l (calmH h m) = 0 then (calmL (partM l h) m, 0) else (false, codeM l (calmH h m))
theorem codeM_zero {l : List S55} {h : Int} (e : codeM l h = 0) : profB l = true ∧ (0 ≤ h ∧ h ≤ 1000000) ∧ 0 ≤ findM l h := by
  unfold codeM at e
  split at e
  · split at e
    · split at e
      · omega
      · refine ⟨by assumption, by assumption, by omega⟩
    · omega
  · omega
theorem profB_len {l : List S55} (h : profB l = true) : 1 ≤ l.length ∧ l.length ≤ 6 := by
  unfold profB at h
  simp only [Bool.and_eq_true, decide_eq_true_eq] at h
  exact h.1
theorem spec_l05Code_ev' (l : List S55) (hl : l.length ≤ 1000000000) (h : Int) : Ev (fun k => spec_l05Code.f k l h) (codeM l h) := spec_l05Code_ev l hl h
theorem part_drop {l R : List S55} {t : Int} {i : Nat} {c : S55} (h : (l.take (t + 1).toNat).drop i = c :: R) : (i : Int) ≤ t ∧ i < l.length ∧ rd_T55 l (i : Int) = c ∧ (l.take (t + 1).toNat).drop (i + 1) = R := by
  obtain ⟨h1, h2, h3⟩ := drop_cons h
  rw [List.length_take] at h1
  rw [List.getElem?_take, if_pos (by omega)] at h2
  refine ⟨by omega, by omega, ?_, h3⟩
  unfold rd_T55
  rw [Int.toNat_natCast, List.getD_eq_getElem?_getD, h2]; rfl
theorem wideF_calm (m : Int) : ∀ (R : List S55) (a b : Int), ((wideF R (a, b)).1 ≥ -m ∧ (wideF R (a, b)).2 ≤ m) ↔ ((a ≥ -m ∧ b ≤ m) ∧ ∀ c ∈ R, -m ≤ c.f1 ∧ c.f2 ≤ m)
  | [], a, b => by simp [wideF]
  | c :: R, a, b => by
    unfold wideF
    rw [wideF_calm m R]
    simp only [List.mem_cons, forall_eq_or_imp]
    unfold mn mx
    constructor
    · rintro ⟨⟨h1, h2⟩, h3⟩
      refine ⟨⟨?_, ?_⟩, ⟨?_, ?_⟩, h3⟩ <;> revert h1 h2 <;> (try dsimp only) <;> split <;> split <;> intros <;> omega
    · rintro ⟨⟨h1, h2⟩, ⟨h3, h4⟩, h5⟩
      refine ⟨⟨?_, ?_⟩, h5⟩ <;> (try dsimp only) <;> split <;> omega
theorem part_head {l : List S55} {h : Int} (h0 : 0 ≤ findM l h) (h1 : 1 ≤ l.length) : rd_T55 l 0 ∈ partM l h := by
  cases l with
  | nil => simp at h1
  | cons c R =>
    unfold partM
    obtain ⟨n, hn⟩ : ∃ n, (findM (c :: R) h + 1).toNat = n + 1 := ⟨(findM (c :: R) h).toNat, by omega⟩
    rw [hn]
    simp [rd_T55]
/-! ### a profile that is widened -/
def sideH (h m : Int) : Int := if -50000 ≤ m ∧ m ≤ 50000 then h else -1
def widC (c : S55) (m : Int) : S55 := ⟨c.f0, mn c.f1 m, mx c.f2 m⟩
def widL (l : List S55) (h m : Int) : List S55 := l.set (findM l h).toNat (widC (rd_T55 l (findM l h)) m)
def widenM (l : List S55) (h m : Int) : List S55 × Int := if codeM l (sideH h m) = 0 then (widL l h m, 0) else ([], codeM l (sideH h m))
theorem code_off (l : List S55) : codeM l (-1) = if profB l = true then 2 else 1 := by
  unfold codeM; rw [if_neg (show ¬ ((0 : Int) ≤ -1 ∧ (-1 : Int) ≤ 1000000) by omega)]
theorem sideH_in {l : List S55} {h m : Int} (e : codeM l (sideH h m) = 0) : (-50000 ≤ m ∧ m ≤ 50000) ∧ sideH h m = h := by
  obtain ⟨_, b, _⟩ := codeM_zero e
  unfold sideH at b
  split at b
  · rename_i g
    exact ⟨g, by unfold sideH; rw [if_pos g]⟩
  · omega
theorem rd_set (l : List S55) {t : Int} (h0 : 0 ≤ t) (h1 : t < l.length) (c : S55) : rd_T55 (l.set t.toNat c) t = c := by
  unfold rd_T55
  rw [List.getD_eq_getElem?_getD, List.getElem?_set_self (by omega)]; rfl
theorem two_sets (l : List S55) {t : Int} (h0 : 0 ≤ t) (h1 : t < l.length) (m : Int) :
    (l.set t.toNat (⟨(rd_T55 l t).f0, mn ((rd_T55 l t).f1) m, (rd_T55 l t).f2⟩ : S55)).set t.toNat (⟨(rd_T55 (l.set t.toNat (⟨(rd_T55 l t).f0, mn ((rd_T55 l t).f1) m, (rd_T55 l t).f2⟩ : S55)) t).f0, (rd_T55 (l.set t.toNat (⟨(rd_T55 l t).f0, mn ((rd_T55 l t).f1) m, (rd_T55 l t).f2⟩ : S55)) t).f1, mx ((rd_T55 (l.set t.toNat (⟨(rd_T55 l t).f0, mn ((rd_T55 l t).f1) m, (rd_T55 l t).f2⟩ : S55)) t).f2) m⟩ : S55) = l.set t.toNat (widC (rd_T55 l t) m) := by
  rw [rd_set l h0 h1, List.set_set]; rfl
theorem spec_WidenWind_ev (l : List S55) (hl : l.length ≤ 1000000000) (h m : Int) : Ev (fun k => spec_WidenWind.f k l h m) (widenM l h m) := by
  have key : ∀ h' : Int, h' = sideH h m → Ev (fun k => spec_WidenWind.j0 k l h' m) (widenM l h m) := by
    intro h' e
    refine Ev.step (fun k => spec_WidenWind.j0.eq_2 ..) ((spec_l05Code_ev' l hl h').bind ?_)
    unfold widenM
    rw [← e]
    by_cases g : codeM l h' = 0
    · have he : h' = h := by rw [e] at g ⊢; exact (sideH_in g).2
      obtain ⟨a, b, c⟩ := codeM_zero g
      have hlt := findM_lt l h'
      have hp := profB_len a
      refine ev_pos g (ev_bind0 rfl (ev_pos (by simp only [List.length_nil]; omega) (ev_bind0 rfl ((spec_l05Find_ev l (by omega) h').bind ?_))))
      rw [List.nil_append]
      refine ev_pos c (ev_pos hlt (ev_bind0 rfl (ev_ret ?_)))
      rw [two_sets l c hlt m, if_pos g, he]; rfl
    · exact ev_neg g (ev_ret (by rw [if_neg g]))
  refine ev_bind0 (in_eq ..) ?_
  by_cases hm : -50000 ≤ m ∧ m ≤ 50000
  · exact ev_pos (by simpa using hm) (key h (by unfold sideH; rw [if_pos hm]))
  · exact ev_neg (by simpa using hm) (key (-1) (by unfold sideH; rw [if_neg hm]))

/-! ### what the program answers, over the print's own pure functions -/
theorem impl_layersTo_j0 (l : List S55) (hl : l.length ≤ 1000000000) (h : Int) : Ev (fun k => impl_layersTo.j0 k l h false) (if findM l h < 0 then ([], 4) else (partM l h, 0)) := by
  have hlt := findM_lt l h
  refine Ev.step (fun k => impl_layersTo.j0.eq_2 ..) (ev_neg (by decide) ((impl_layerOf_ev l (by omega) h).bind ?_))
  by_cases a : findM l h < 0
  · exact ev_pos a (ev_ret (by rw [if_pos a]))
  · refine ev_neg a ?_
    rw [if_neg a, w64 (n := findM l h + 1) (by omega) (by omega)]
    refine ev_bind0 rfl (ev_pos (by omega) (ev_pos (by omega) (ev_bind0 rfl (ev_pos ?_ (ev_ret ?_)))))
    · simp only [List.length_nil, List.length_take]; omega
    · rw [List.nil_append]; rfl
theorem impl_layersTo_ev (l : List S55) (hl : l.length ≤ 1000000000) (h : Int) : Ev (fun k => impl_layersTo.f k l h true) (if codeM l h = 0 then partM l h else [], codeM l h) := by
  refine (impl_IsProfile_ev l (by omega)).bind ?_
  unfold codeM
  by_cases a : profB l = true
  · refine ev_pos a (ev_bind0 (within_f h) ?_)
    simp only [a, if_true]
    by_cases b : 0 ≤ h ∧ h ≤ 1000000
    · refine ev_pos (by simpa using b) ?_
      simp only [b, and_self, if_true, Bool.not_true]
      have e := impl_layersTo_j0 l hl h
      by_cases c : findM l h < 0
      · simp only [c, if_true] at e ⊢; exact e
      · simp only [c, if_false, if_true] at e ⊢; exact e
    · refine ev_neg (by simpa using b) (Ev.step (fun k => impl_layersTo.j0.eq_2 ..) (ev_pos rfl (ev_ret ?_)))
      simp [b]
  · exact ev_neg a (ev_ret (by simp [a]))
theorem impl_layersTo_off (l : List S55) (hl : l.length ≤ 1000000000) (h : Int) : Ev (fun k => impl_layersTo.f k l h false) ([], if profB l = true then 2 else 1) := by
  refine (impl_IsProfile_ev l (by omega)).bind ?_
  by_cases a : profB l = true
  · refine ev_pos a (ev_bind0 (within_f h) ?_)
    have e : Ev (fun k => impl_layersTo.j0 k l h true) (([] : List S55), 2) := Ev.step (fun k => impl_layersTo.j0.eq_2 ..) (ev_pos rfl (Ev.now _))
    rw [if_pos a]
    by_cases b : 0 ≤ h ∧ h ≤ 1000000
    · exact ev_pos (by simpa using b) e
    · exact ev_neg (by simpa using b) e
  · exact ev_neg a (ev_ret (by rw [if_neg a]))
theorem part_len {l : List S55} {h : Int} (e : codeM l h = 0) : 1 ≤ (partM l h).length ∧ (partM l h).length ≤ l.length ∧ rd_T55 (partM l h) 0 = rd_T55 l 0 ∧ ((partM l h).length : Int) = findM l h + 1 := by
  obtain ⟨a, b, c⟩ := codeM_zero e
  have hlt := findM_lt l h
  have hl := profB_len a
  unfold partM
  refine ⟨by rw [List.length_take]; omega, by rw [List.length_take]; omega, ?_, by rw [List.length_take]; omega⟩
  cases l with
  | nil => simp at hl
  | cons x R =>
    obtain ⟨n, hn⟩ : ∃ n, (findM (x :: R) h + 1).toNat = n + 1 := ⟨(findM (x :: R) h).toNat, by omega⟩
    rw [hn]; rfl
theorem windM_eq (l : List S55) (h : Int) : windM l h = if codeM l h = 0 then ((rd_T55 l (findM l h)).f1, (rd_T55 l (findM l h)).f2, 0) else (0, 0, codeM l h) := by
  unfold windM codeM
  by_cases a : profB l = true
  · by_cases b : 0 ≤ h ∧ h ≤ 1000000
    · by_cases c : findM l h < 0
      · simp [a, b, c]
      · simp [a, b, c]
    · simp [a, b]
  · simp [a]
theorem impl_WidenWind_ev (l : List S55) (hl : l.length ≤ 1000000000) (h m : Int) : Ev (fun k => impl_WidenWind.f k l h m) (widenM l h m) := by
  refine ev_bind0 (isSide_eq m) ?_
  unfold widenM
  by_cases hm : -50000 ≤ m ∧ m ≤ 50000
  · rw [decide_eq_true hm, show sideH h m = h by unfold sideH; rw [if_pos hm]]
    refine (impl_layersTo_ev l hl h).bind ?_
    by_cases g : codeM l h = 0
    · obtain ⟨p1, p2, p3, p4⟩ := part_len g
      obtain ⟨a, b, c⟩ := codeM_zero g
      have hlt := findM_lt l h
      simp only [g, if_true]
      have e : wrap64 (((partM l h).length : Int) - 1) = findM l h := by rw [w64 (by omega) (by omega)]; omega
      rw [e]
      refine ev_bind0 rfl (ev_pos (by simp only [List.length_nil]; omega) (ev_bind0 rfl ?_))
      rw [List.nil_append]
      refine ev_pos c (ev_pos hlt (ev_bind0 rfl (ev_ret ?_)))
      rw [two_sets l c hlt m]; rfl
    · simp only [g, if_false]
      exact Ev.now _
  · rw [decide_eq_false hm, show sideH h m = -1 by unfold sideH; rw [if_neg hm], code_off]
    refine (impl_layersTo_off l hl h).bind ?_
    by_cases a : profB l = true
    · simp only [a, if_true]
      exact ev_neg (by decide) (ev_ret rfl)
    · simp only [a, if_false]
      exact ev_neg (by decide) (ev_ret rfl)

/-! ### slices laid out with room behind -/
theorem room_some (n : Nat) (h : n ≤ 1000000000) : ∃ t, laws_roomBehind.f (n : Int) = some t ∧ 0 ≤ t ∧ t ≤ 1000000000 := by
  unfold laws_roomBehind.f
  split
  · exact ⟨_, rfl, by omega, by omega⟩
  · split
    · exact ⟨_, rfl, by omega, by omega⟩
    · exact ⟨_, rfl, by omega, by omega⟩
theorem take_set_ge {α : Type} (x : List α) (n j : Nat) (v : α) (h : n ≤ j) : (x.set j v).take n = x.take n := by
  rw [List.take_set, List.set_eq_of_length_le (by rw [List.length_take]; omega)]
theorem take_set_next {α : Type} (x l : List α) (i : Nat) (c : α) (hi : i < x.length) (hc : l[i]? = some c) (h : x.take i = l.take i) : (x.set i c).take (i + 1) = l.take (i + 1) := by
  obtain ⟨y, hy⟩ : ∃ y, x[i]? = some y := ⟨x[i], List.getElem?_eq_getElem hi⟩
  have hl : (x.set i c)[i]? = some c := by rw [List.getElem?_set_self hi]
  rw [List.take_add_one, List.take_add_one, hl, hc, take_set_ge _ _ _ _ (Nat.le_refl i), h]

/-! ### layers -/
def cvL (x : S64) : S55 := ⟨x.f0, x.f1, x.f2⟩
theorem rd64 {l : List S64} {i : Nat} {c : S64} (h : rdOf z64 l (i : Int) = c) : (⟨(rd_T64 l i).f0, (rd_T64 l i).f1, (rd_T64 l i).f2⟩ : S55) = cvL c := by rw [← h]; rfl
theorem eqLayerS_l0 (l : List S55) (hl : l.length ≤ 4611686018427387904) : ∀ (R : List S55) (i : Nat), l.drop i = R → Ev (fun k => laws_eqLayerS.l0 k l l i) true := by
  intro R
  induction R with
  | nil =>
    intro i h
    have := drop_nil h
    exact Ev.step (fun k => laws_eqLayerS.l0.eq_2 ..) (ev_neg (by omega) (Ev.now _))
  | cons c R ih =>
    intro i h
    obtain ⟨h1, h2, h3⟩ := rdOf_drop (d := z55) h
    refine Ev.step (fun k => laws_eqLayerS.l0.eq_2 ..) (ev_pos (by omega) (ev_pos (by omega) (ev_pos (by omega) (ev_bind0 (b := true) (by unfold laws_eqLayer.f; simp) (ev_pos rfl ?_)))))
    rw [w64 (n := (i : Int) + 1) (by omega) (by omega)]
    exact ih (i + 1) h3
theorem eqLayerS_ev (l : List S55) (hl : l.length ≤ 4611686018427387904) : Ev (fun k => laws_eqLayerS.f k l l) true := by
  have h := eqLayerS_l0 l hl l 0 rfl
  exact ev_pos rfl h
theorem toLayerSF_l1 (l : List S64) (hl : l.length ≤ 1000000000) : ∀ (d : Nat) (x : List S55) (j : Nat), x.length - j = d → x.length ≤ 3000000000 → l.length ≤ j → j ≤ x.length → x.take l.length = l.map cvL →
    ∃ L, Ev (fun k => laws_toLayerSF.l1 k l x (j : Int)) L ∧ L.length = x.length ∧ L.take l.length = l.map cvL := by
  intro d
  induction d with
  | zero =>
    intro x j hd hx hj hjx ht
    exact ⟨x, Ev.step (fun k => laws_toLayerSF.l1.eq_2 ..) (ev_neg (by omega) (ev_pos (by omega) (ev_pos (by omega) (Ev.now _)))), rfl, ht⟩
  | succ d ih =>
    intro x j hd hx hj hjx ht
    obtain ⟨L, e, h1, h2⟩ := ih (x.set j (⟨(-7000000000000000101), (-7000000000000000101), (-7000000000000000101)⟩ : S55)) (j + 1) (by rw [List.length_set]; omega) (by rw [List.length_set]; omega) (by omega) (by rw [List.length_set]; omega) (by rw [take_set_ge _ _ _ _ hj, ht])
    refine ⟨L, Ev.step (fun k => laws_toLayerSF.l1.eq_2 ..) (ev_pos (by omega) (ev_bind0 rfl (ev_pos (by omega) ?_))), by rw [h1, List.length_set], h2⟩
    dsimp only
    rw [Int.toNat_natCast, w64 (n := (j : Int) + 1) (by omega) (by omega)]
    exact e
theorem toLayerSF_l0 (l : List S64) (hl : l.length ≤ 1000000000) : ∀ (R : List S64) (i : Nat) (x : List S55), l.drop i = R → i ≤ l.length → l.length ≤ x.length → x.length ≤ 3000000000 → x.take i = (l.map cvL).take i →
    ∃ L, Ev (fun k => laws_toLayerSF.l0 k l x (i : Int)) L ∧ L.length = x.length ∧ L.take l.length = l.map cvL := by
  intro R
  induction R with
  | nil =>
    intro i x h hi hx hx' ht
    have h1 := drop_nil h
    obtain ⟨L, e, h2⟩ := toLayerSF_l1 l hl (x.length - l.length) x l.length rfl hx' (Nat.le_refl _) hx (by rw [show l.length = i by omega, ht, List.take_of_length_le (by rw [List.length_map]; exact h1)])
    exact ⟨L, Ev.step (fun k => laws_toLayerSF.l0.eq_2 ..) (ev_neg (by omega) e), h2⟩
  | cons c R ih =>
    intro i x h hi hx hx' ht
    obtain ⟨h1, h2, h3⟩ := rdOf_drop (d := z64) h
    obtain ⟨_, hc, _⟩ := drop_cons h
    obtain ⟨L, e, h4, h5⟩ := ih (i + 1) (x.set i (cvL c)) h3 (by omega) (by rw [List.length_set]; omega) (by rw [List.length_set]; omega) (take_set_next x (l.map cvL) i (cvL c) (by omega) (by rw [List.getElem?_map, hc]; rfl) ht)
    refine ⟨L, Ev.step (fun k => laws_toLayerSF.l0.eq_2 ..) (ev_pos (by omega) (ev_pos (by omega) (ev_bind0 rfl (ev_pos (by omega) ?_)))), by rw [h4, List.length_set], h5⟩
    dsimp only
    rw [rd64 h2, Int.toNat_natCast, w64 (n := (i : Int) + 1) (by omega) (by omega)]
    exact e
theorem toLayerSF_ev (l : List S64) (hl : l.length ≤ 1000000000) {t : Int} (ht : laws_roomBehind.f (l.length : Int) = some t) (t0 : 0 ≤ t) (t1 : t ≤ 1000000000) : ∃ L, Ev (fun k => laws_toLayerSF.f k l false) L ∧ (L.length : Int) = l.length + t ∧ L.take l.length = l.map cvL := by
  obtain ⟨L, e, h1, h2⟩ := toLayerSF_l0 l hl l 0 (List.replicate ((l.length : Int) + t).toNat z55) rfl (by omega) (by rw [List.length_replicate]; omega) (by rw [List.length_replicate]; omega) (by simp)
  rw [List.length_replicate] at h1
  refine ⟨L, ?_, by omega, h2⟩
  refine ev_neg (by decide) (Ev.step (fun k => laws_toLayerSF.j0.eq_2 ..) (ev_neg (by decide) (ev_bind0 ht ?_)))
  rw [w64 (n := (l.length : Int) + t) (by omega) (by omega)]
  exact ev_pos (by omega) (ev_pos (by omega) e)
/-! #### the same, its room forgotten -/
theorem toLayerS_l1 (l : List S64) (hl : l.length ≤ 1000000000) : ∀ (d : Nat) (x : List S55) (j : Nat), x.length - j = d → x.length ≤ 3000000000 → l.length ≤ j → j ≤ x.length → x.take l.length = l.map cvL →
    Ev (fun k => laws_toLayerS.l1 k l x (j : Int)) (l.map cvL) := by
  intro d
  induction d with
  | zero =>
    intro x j hd hx hj hjx ht
    exact Ev.step (fun k => laws_toLayerS.l1.eq_2 ..) (ev_neg (by omega) (ev_pos (by omega) (ev_pos (by omega) (ev_ret (by rw [Int.toNat_natCast, ht])))))
  | succ d ih =>
    intro x j hd hx hj hjx ht
    have e := ih (x.set j (⟨(-7000000000000000101), (-7000000000000000101), (-7000000000000000101)⟩ : S55)) (j + 1) (by rw [List.length_set]; omega) (by rw [List.length_set]; omega) (by omega) (by rw [List.length_set]; omega) (by rw [take_set_ge _ _ _ _ hj, ht])
    refine Ev.step (fun k => laws_toLayerS.l1.eq_2 ..) (ev_pos (by omega) (ev_bind0 rfl (ev_pos (by omega) ?_)))
    dsimp only
    rw [Int.toNat_natCast, w64 (n := (j : Int) + 1) (by omega) (by omega)]
    exact e
theorem toLayerS_l0 (l : List S64) (hl : l.length ≤ 1000000000) : ∀ (R : List S64) (i : Nat) (x : List S55), l.drop i = R → i ≤ l.length → l.length ≤ x.length → x.length ≤ 3000000000 → x.take i = (l.map cvL).take i →
    Ev (fun k => laws_toLayerS.l0 k l x (i : Int)) (l.map cvL) := by
  intro R
  induction R with
  | nil =>
    intro i x h hi hx hx' ht
    have h1 := drop_nil h
    have e := toLayerS_l1 l hl (x.length - l.length) x l.length rfl hx' (Nat.le_refl _) hx (by rw [show l.length = i by omega, ht, List.take_of_length_le (by rw [List.length_map]; exact h1)])
    exact Ev.step (fun k => laws_toLayerS.l0.eq_2 ..) (ev_neg (by omega) e)
  | cons c R ih =>
    intro i x h hi hx hx' ht
    obtain ⟨h1, h2, h3⟩ := rdOf_drop (d := z64) h
    obtain ⟨_, hc, _⟩ := drop_cons h
    have e := ih (i + 1) (x.set i (cvL c)) h3 (by omega) (by rw [List.length_set]; omega) (by rw [List.length_set]; omega) (take_set_next x (l.map cvL) i (cvL c) (by omega) (by rw [List.getElem?_map, hc]; rfl) ht)
    refine Ev.step (fun k => laws_toLayerS.l0.eq_2 ..) (ev_pos (by omega) (ev_pos (by omega) (ev_bind0 rfl (ev_pos (by omega) ?_))))
    dsimp only
    rw [rd64 h2, Int.toNat_natCast, w64 (n := (i : Int) + 1) (by omega) (by omega)]
    exact e
theorem toLayerS_bare (l : List S64) (hl : l.length ≤ 1000000000) : Ev (fun k => laws_toLayerS.f k l true) (l.map cvL) := by
  refine ev_pos rfl (Ev.step (fun k => laws_toLayerS.j0.eq_2 ..) ?_)
  by_cases a : l.length = 0
  · exact ev_pos (by simp [a]) (ev_ret (by rw [List.length_eq_zero_iff.1 a]; rfl))
  · obtain ⟨t, et, t0, t1⟩ := room_some l.length hl
    refine ev_neg (by simp; intro h; simp [h] at a) (ev_bind0 et ?_)
    rw [w64 (n := (l.length : Int) + t) (by omega) (by omega)]
    refine ev_pos (by omega) (ev_pos (by omega) ?_)
    exact toLayerS_l0 l hl l 0 (List.replicate ((l.length : Int) + t).toNat z55) rfl (by omega) (by rw [List.length_replicate]; omega) (by rw [List.length_replicate]; omega) (by simp)

/-! ### layers marked and held -/
theorem setM {α : Type} (P R : List α) (c m : α) : (P ++ c :: R).set ((P.length : Int)).toNat m = P ++ m :: R := by
  rw [Int.toNat_natCast, List.set_append_right _ _ (by omega)]; simp
theorem rdM (P R : List S55) (c : S55) : rd_T55 (P ++ c :: R) (P.length : Int) = c := by
  unfold rd_T55; simp
def mkL (m : Int) : Nat → List S55
  | 0 => []
  | n + 1 => ⟨m, m + 1, m + 2⟩ :: mkL (m + 3) n
theorem mkL_len : ∀ (n : Nat) (m : Int), (mkL m n).length = n
  | 0, _ => rfl
  | n + 1, m => by simp [mkL, mkL_len n]
theorem markLayerS_l0 : ∀ (R P : List S55) (m : Int), 0 ≤ m → m + 3 * R.length ≤ 4611686018427387904 → P.length + R.length ≤ 4611686018427387904 →
    Ev (fun k => laws_markLayerS.l0 k (P ++ R) m P.length) (m + 3 * R.length, P ++ mkL m R.length) := by
  intro R
  induction R with
  | nil =>
    intro P m h0 h1 h2
    refine Ev.step (fun k => laws_markLayerS.l0.eq_2 ..) (ev_neg (by simp) (ev_ret ?_))
    simp [mkL]
  | cons c R ih =>
    intro P m h0 h1 h2
    simp only [List.length_cons] at h1 h2
    refine Ev.step (fun k => laws_markLayerS.l0.eq_2 ..) (ev_pos (by simp; omega) (ev_pos (by omega) (ev_bind0 rfl (ev_bind0 rfl ?_))))
    have := ih (P ++ [⟨m, m + 1, m + 2⟩]) (m + 3) (by omega) (by omega) (by simp; omega)
    simp only [rdM, setM]
    rw [w64 (n := m + 1) (by omega) (by omega), w64 (n := m + 1 + 1) (by omega) (by omega), w64 (n := m + 1 + 1 + 1) (by omega) (by omega), w64 (n := (P.length : Int) + 1) (by omega) (by omega), show m + 1 + 1 = m + 2 by omega, show m + 2 + 1 = m + 3 by omega]
    simp only [List.length_append, List.length_singleton, List.append_assoc, List.singleton_append] at this
    rw [show m + 3 * ((c :: R).length : Int) = m + 3 + 3 * (R.length : Int) by simp; omega]
    exact this
theorem markLayerS_ev (l : List S55) {m : Int} (h0 : 0 ≤ m) (h1 : m + 3 * l.length ≤ 4611686018427387904) : Ev (fun k => laws_markLayerS.f k l m) (m + 3 * l.length, mkL m l.length) := by
  have := markLayerS_l0 l [] m h0 h1 (by simp; omega)
  have h : Ev (fun k => laws_markLayerS.l0 k l m 0) (m + 3 * l.length, mkL m l.length) := by simpa using this
  exact h
theorem heldLayerS_l0 : ∀ (n : Nat) (P : List S55) (m : Int), 0 ≤ m → m + 3 * n ≤ 4611686018427387904 → P.length + n ≤ 4611686018427387904 →
    Ev (fun k => laws_heldLayerS.l0 k (P ++ mkL m n) m P.length) (m + 3 * n) := by
  intro n
  induction n with
  | zero =>
    intro P m h0 h1 h2
    exact Ev.step (fun k => laws_heldLayerS.l0.eq_2 ..) (ev_neg (by simp [mkL]) (ev_ret (by simp)))
  | succ n ih =>
    intro P m h0 h1 h2
    have hr : rd_T55 (P ++ mkL m (n + 1)) (P.length : Int) = ⟨m, m + 1, m + 2⟩ := rdM P (mkL (m + 3) n) _
    have hl : (P ++ mkL m (n + 1)).length = P.length + (n + 1) := by rw [List.length_append, mkL_len]
    refine Ev.step (fun k => laws_heldLayerS.l0.eq_2 ..) (ev_pos (by omega) (ev_pos (by omega) ?_))
    rw [hr, w64 (n := m + 1) (by omega) (by omega), w64 (n := m + 1 + 1) (by omega) (by omega), w64 (n := m + 1 + 1 + 1) (by omega) (by omega), w64 (n := (P.length : Int) + 1) (by omega) (by omega)]
    refine ev_pos rfl (ev_pos rfl (ev_pos (by dsimp only; omega) ?_))
    have := ih (P ++ [⟨m, m + 1, m + 2⟩]) (m + 3) (by omega) (by omega) (by simp; omega)
    simp only [List.length_append, List.length_singleton, List.append_assoc, List.singleton_append] at this
    rw [show m + 3 * ((n + 1 : Nat) : Int) = m + 3 + 3 * (n : Int) by omega, show m + 1 + 1 + 1 = m + 3 by omega]
    exact this
theorem heldLayerS_ev {n : Nat} {m : Int} (h0 : 0 ≤ m) (h1 : m + 3 * n ≤ 4611686018427387904) : Ev (fun k => laws_heldLayerS.f k (mkL m n) m) (m + 3 * n) := by
  have := heldLayerS_l0 n [] m h0 h1 (by simp; omega)
  have h : Ev (fun k => laws_heldLayerS.l0 k (mkL m n) m 0) (m + 3 * n) := by simpa using this
  exact h

theorem maxLen_eq : maxLen ≤ 9223372036854775807 := by unfold maxLen; decide
theorem takeC {w : World} {A : Option Addr} {n : Nat} {M L : List S55} (hLt : L.take n = M) (hM : M.length = n) (hLl : n ≤ L.length) (h : Kd.C k55 w A L.length L) : Kd.C k55 w A M.length M := by
  have := Kd.C_take (m := n) h hLl
  rwa [hLt] at this
theorem takeR {w : World} {b c : Nat} {ok : Nat → Prop} {A : Option Addr} {n : Nat} {M L : List S55} (hLt : L.take n = M) (hM : M.length = n) (hLl : n ≤ L.length) (h : Kd.R k55 55 w b ok (.slice A L.length c) L) : Kd.R k55 55 w b (fun k_ => some k_ = (.slice A n c : Value).ownBlock) (.slice A n c) M := by
  have := Kd.R_take (m := n) h hLl
  rw [hLt] at this
  exact Kd.R_tight rfl this
theorem ne_base {α : Type} {β : Type} {d : Kd α} {d' : Kd β} {e e' b : Nat} {ok ok' : Nat → Prop} {w w1 : World} {u v : Value} {xs : List α} {ys : List β} (hu : d.R e w b ok u xs) (hv : d'.R e' w1 w.heap.size ok' v ys) : ∀ k, u.ownBlock = some k → some k ≠ v.ownBlock := by
  intro k hk he
  have h1 := ((Kd.R_bound hu).1 k hk).2.2.1
  have h2 := ((Kd.R_bound hv).1 k he.symm).2.1
  omega
theorem own_same (A : Option Addr) (n m c : Nat) : (Value.slice A n c).ownBlock = (Value.slice A m c).ownBlock := by cases A <;> rfl
theorem R_keptT {α : Type} {d : Kd α} {e b : Nat} {ok : Nat → Prop} {W W2 : World} {S : Nat → Prop} {v : Value} {xs : List α} (hE : d.E = []) (h : d.R e W b ok v xs) (hk : Kept W W2 S) (hne : ∀ k, v.ownBlock = some k → ¬ S k) : d.R e W2 b (fun _ => True) v xs :=
  Kd.R_mono (Kd.R_kept (Kd.R_tight hE h) hk (fun k hk2 => hne k hk2.symm)) (fun _ _ => trivial)
set_option maxHeartbeats 16000000 in
set_option maxRecDepth 100000 in
theorem go (k : Nat) (A0 : Option Addr) (c0 : Nat) (l0 : List S64) (a1 a2 : Int) (M r L Mx Mg : List S55) (z t kx km room : Int) (w : World) (hr0 : Kd.C k64 w A0 l0.length l0) (hc0 : l0.length ≤ c0) (hn : l0.length ≤ 1000000) (hsz : laws_szLayerS.f l0 1000000 = some z) (hz : ¬ z < 0) (hM : M.length = l0.length)
    (hfull : laws_toLayerSF.f k l0 false = some L) (hLt : L.take l0.length = M) (hLl0 : l0.length ≤ L.length) (hLr : (L.length : Int) = l0.length + room) (hroom : laws_roomBehind.f (l0.length : Int) = some room) (hr0_ : 0 ≤ room) (hr1_ : room ≤ 1000000000000)
    (hbare : laws_toLayerS.f k l0 true = some M) (hspec : spec_WidenWind.f k M a1 a2 = some (r, t)) (himp : impl_WidenWind.f k M a1 a2 = some (r, t)) (heqr : laws_eqLayerS.f k r r = some true) (heq : laws_eqLayerS.f k L L = some true)
    (hmx : laws_markLayerS.f k M 101 = some (kx, Mx)) (hkx : 0 ≤ kx) (hmg : laws_markLayerS.f k r 101 = some (km, Mg)) (hkm : 0 ≤ km) (hMl : Mg.length = r.length) (hhe : laws_heldLayerS.f k Mg 101 = some km) :
    Calls Try.prog 10 #[.slice A0 l0.length c0, .int .i64 a1, .int .i64 a2] w fun e w' => e = .returned (.bool true) ∧ Below w.heap.size w w' := by
  have takeC : ∀ {w : World} {A : Option Addr}, Kd.C k55 w A L.length L → Kd.C k55 w A M.length M := takeC hLt hM hLl0
  have hLl : M.length ≤ L.length := by omega
  have HR0 := Aside0.mk hr0
  have HC0 := Aside0.mk hc0
  have HB := Aside0.mk (Below.refl w.heap.size w)
  have c1b0 : decide (z < 0) = false := decide_eq_false hz
  have c2b0 : decide (kx < 0) = false := decide_eq_false (by omega)
  have c3b0 : decide (km < 0) = false := decide_eq_false (by omega)
  have qt0 : (t == t) = true := by simp
  have qt1 : (t != t) = false := by simp
  have qm0 : (km == km) = true := by simp
  have qm1 : (km != km) = false := by simp
  replace hn : l0.length ≤ 1000000000000 := by omega
  have chspec : ∀ (A : Option Addr) (c : Nat) (w : World), Kd.C k55 w A M.length M → M.length ≤ c → Calls Try.prog 36 #[.slice A l0.length c, .int .i64 a1, .int .i64 a2] w fun e w' => ∃ v0_ : Value, e = .returned (.tuple #[v0_, .int .i64 t]) ∧ Kd.R k55 55 w' w.heap.size (fun _ => True) v0_ r ∧ Below w.heap.size w w' := by
    intro A c w h1 h2
    rw [← hM]
    exact spec_WidenWind.calls k A c M a1 a2 r t w h1 h2 hspec
  have chimpl : ∀ (A : Option Addr) (c : Nat) (w : World), Kd.C k55 w A M.length M → M.length ≤ c → Calls Try.prog 37 #[.slice A l0.length c, .int .i64 a1, .int .i64 a2] w fun e w' => ∃ v0_ : Value, e = .returned (.tuple #[v0_, .int .i64 t]) ∧ Kd.R k55 55 w' w.heap.size (fun _ => True) v0_ r ∧ Below w.heap.size w w' := by
    intro A c w h1 h2
    rw [← hM]
    exact impl_WidenWind.calls k A c M a1 a2 r t w h1 h2 himp
  have hheld : ∀ (A : Option Addr) (c : Nat) (w : World), Kd.C k55 w A Mg.length Mg → Mg.length ≤ c → Calls Try.prog 31 #[.slice A r.length c, .int .i64 101] w fun e w' => e = .returned (.int .i64 km) ∧ Drawn0 w w' := by
    intro A c w h1 h2
    rw [← hMl]
    exact laws_heldLayerS.calls k A c Mg 101 km w h1 h2 hhe
  clear hr0 hc0 hkx hkm hhe hz
  go_enter Try.func10, Try.ntmps10
  go_wp2_with (first | ((with_reducible refine gate_callee (f := 14) rfl ?_); refine goesL_ (some 20) rfl rfl Try.func14 (by kernel_rfl) rfl #[.slice A0 l0.length c0, .int .i64 1000000] rfl (by (try simp only [List.map_toArray, List.map_cons, List.map_nil]); first | done | rfl | (simp only [List.length_drop, List.length_take]; rfl) | (go_simp; done) | (simp; done) | (simp; rfl)) ?_; (with_reducible refine (laws_szLayerS.calls _ _ l0 1000000 z _ ?side1 ?side2 hsz).mono ?_); (case side1 => repeat (first | exact (Kd.C_below HR0.out (by repeat (first | (with_reducible first | exact HB.out | apply below_alloc | apply pw_below_drewN | apply below_drew1) | exact HB.out))) | (with_reducible refine Kd.C_alloc ?_ _) | (with_reducible refine Kd.C_drewN ?_ _) | (with_reducible refine Kd.C_drew ?_))); (case side2 => exact HC0.out); rintro e wo ⟨rfl, hd⟩; have hb := drawn_below hd; clear hd; refine ⟨_, rfl, ?_⟩; have nb_ := Aside0.mk (below_step (by repeat (first | (with_reducible first | exact HB.out | apply below_alloc | apply pw_below_drewN | apply below_drew1) | exact HB.out)) hb); clear HB; have HB := nb_; clear nb_; clear hb) | ((with_reducible refine gate_callee (f := 16) rfl ?_); refine goesL_ (some 25) rfl rfl Try.func16 (by kernel_rfl) rfl #[.slice A0 l0.length c0, .bool false] rfl (by (try simp only [List.map_toArray, List.map_cons, List.map_nil]); first | done | rfl | (simp only [List.length_drop, List.length_take]; rfl) | (go_simp; done) | (simp; done) | (simp; rfl)) ?_; (with_reducible refine (laws_toLayerSF.calls k _ _ l0 false L _ ?side1 ?side2 hfull).mono ?_); (case side1 => repeat (first | exact (Kd.C_below HR0.out (by repeat (first | (with_reducible first | exact HB.out | apply below_alloc | apply pw_below_drewN | apply below_drew1) | exact HB.out))) | (with_reducible refine Kd.C_alloc ?_ _) | (with_reducible refine Kd.C_drewN ?_ _) | (with_reducible refine Kd.C_drew ?_))); (case side2 => exact HC0.out); rintro e wp ⟨Ap, cp, rfl, hR, _, hb⟩; refine ⟨_, rfl, ?_⟩; have HKp := Aside0.mk (Kd.R_reads' hR).2.2; have HLp := Aside0.mk (Kd.R_reads' hR).2.1; clear hR; have nb_ := Aside0.mk (below_step (by repeat (first | (with_reducible first | exact HB.out | apply below_alloc | apply pw_below_drewN | apply below_drew1) | exact HB.out)) hb); clear HB; have HB := nb_; clear nb_; clear hb) | ((with_reducible refine gate_callee (f := 36) rfl ?_); refine goesL_ (some 28) rfl rfl Try.func36 (by kernel_rfl) rfl #[.slice Ap l0.length cp, .int .i64 a1, .int .i64 a2] rfl (by (try simp only [List.map_toArray, List.map_cons, List.map_nil]); first | done | rfl | (simp only [List.length_drop, List.length_take]; rfl) | (go_simp; done) | (simp; done) | (simp; rfl)) ?_; (with_reducible refine (chspec _ _ _ ?side1 ?side2).mono ?_); (case side1 => repeat (first | exact (takeC HKp.out) | (with_reducible refine Kd.C_alloc ?_ _) | (with_reducible refine Kd.C_drewN ?_ _) | (with_reducible refine Kd.C_drew ?_))); (case side2 => exact (Nat.le_trans hLl HLp.out)); rintro e wq ⟨vw, rfl, hR, hb⟩; refine ⟨_, rfl, ?_⟩; obtain ⟨Aw, cw, ew⟩ := Kd.R_slice hR; subst ew; have HW := Aside0.mk (Kd.R_lower hR (below_size (by repeat (first | (with_reducible first | exact HB.out | apply below_alloc | apply pw_below_drewN | apply below_drew1) | exact HB.out)))); clear hR; have n0_ := Aside0.mk (Kd.C_below (by repeat (first | exact HKp.out | (with_reducible refine Kd.C_alloc ?_ _) | (with_reducible refine Kd.C_drewN ?_ _) | (with_reducible refine Kd.C_drew ?_))) hb); have nb_ := Aside0.mk (below_step (by repeat (first | (with_reducible first | exact HB.out | apply below_alloc | apply pw_below_drewN | apply below_drew1) | exact HB.out)) hb); clear HKp; clear HB; have HKp := n0_; have HB := nb_; clear n0_ nb_; clear hb) | ((with_reducible refine gate_callee (f := 16) rfl ?_); refine goesL_ (some 32) rfl rfl Try.func16 (by kernel_rfl) rfl #[.slice A0 l0.length c0, .bool false] rfl (by (try simp only [List.map_toArray, List.map_cons, List.map_nil]); first | done | rfl | (simp only [List.length_drop, List.length_take]; rfl) | (go_simp; done) | (simp; done) | (simp; rfl)) ?_; (with_reducible refine (laws_toLayerSF.calls k _ _ l0 false L _ ?side1 ?side2 hfull).mono ?_); (case side1 => repeat (first | exact (Kd.C_below HR0.out (by repeat (first | (with_reducible first | exact HB.out | apply below_alloc | apply pw_below_drewN | apply below_drew1) | exact HB.out))) | (with_reducible refine Kd.C_alloc ?_ _) | (with_reducible refine Kd.C_drewN ?_ _) | (with_reducible refine Kd.C_drew ?_))); (case side2 => exact HC0.out); rintro e wx ⟨Ax, cx, rfl, hR, _, hb⟩; refine ⟨_, rfl, ?_⟩; have NWX := Aside0.mk (ne_base (by (with_reducible repeat (first | apply Kd.R_alloc | apply Kd.R_drewN | apply Kd.R_drew)); exact HW.out) hR); have HLx := Aside0.mk (Kd.R_reads' hR).2.1; have HX := Aside0.mk (Kd.R_lower hR (below_size (by repeat (first | (with_reducible first | exact HB.out | apply below_alloc | apply pw_below_drewN | apply below_drew1) | exact HB.out)))); clear hR; have n0_ := Aside0.mk (Kd.R_below (by (with_reducible repeat (first | apply Kd.R_alloc | apply Kd.R_drewN | apply Kd.R_drew)); exact HW.out) hb); have nb_ := Aside0.mk (below_step (by repeat (first | (with_reducible first | exact HB.out | apply below_alloc | apply pw_below_drewN | apply below_drew1) | exact HB.out)) hb); clear HW; clear HB; have HW := n0_; have HB := nb_; clear n0_ nb_; clear hb) | ((with_reducible refine gate_callee (f := 37) rfl ?_); refine goesL_ (some 37) rfl rfl Try.func37 (by kernel_rfl) rfl #[.slice Ax l0.length cx, .int .i64 a1, .int .i64 a2] rfl (by (try simp only [List.map_toArray, List.map_cons, List.map_nil]); first | done | rfl | (simp only [List.length_drop, List.length_take]; rfl) | (go_simp; done) | (simp; done) | (simp; rfl)) ?_; (with_reducible refine (chimpl _ _ _ ?side1 ?side2).mono ?_); (case side1 => exact (takeC (Kd.R_reads' (by (with_reducible repeat (first | apply Kd.R_alloc | apply Kd.R_drewN | apply Kd.R_drew)); exact HX.out)).2.2)); (case side2 => exact (Nat.le_trans hLl HLx.out)); rintro e wr ⟨vg, rfl, hR, hb⟩; refine ⟨_, rfl, ?_⟩; obtain ⟨Ag, cg, eg⟩ := Kd.R_slice hR; subst eg; have NWG := Aside0.mk (ne_base (by (with_reducible repeat (first | apply Kd.R_alloc | apply Kd.R_drewN | apply Kd.R_drew)); exact HW.out) hR); have NXG := Aside0.mk (ne_base (by (with_reducible repeat (first | apply Kd.R_alloc | apply Kd.R_drewN | apply Kd.R_drew)); exact HX.out) hR); have HG := Aside0.mk (Kd.R_lower hR (below_size (by repeat (first | (with_reducible first | exact HB.out | apply below_alloc | apply pw_below_drewN | apply below_drew1) | exact HB.out)))); clear hR; have n0_ := Aside0.mk (Kd.R_below (by (with_reducible repeat (first | apply Kd.R_alloc | apply Kd.R_drewN | apply Kd.R_drew)); exact HW.out) hb); have n1_ := Aside0.mk (Kd.R_below (by (with_reducible repeat (first | apply Kd.R_alloc | apply Kd.R_drewN | apply Kd.R_drew)); exact HX.out) hb); have nb_ := Aside0.mk (below_step (by repeat (first | (with_reducible first | exact HB.out | apply below_alloc | apply pw_below_drewN | apply below_drew1) | exact HB.out)) hb); clear HW; clear HX; clear HB; have HW := n0_; have HX := n1_; have HB := nb_; clear n0_ n1_ nb_; clear hb) | ((with_reducible refine gate_callee (f := 29) rfl ?_); refine goesL_ (some 42) rfl rfl Try.func29 (by kernel_rfl) rfl #[.slice Ag r.length cg, .slice Aw r.length cw] rfl (by (try simp only [List.map_toArray, List.map_cons, List.map_nil]); first | done | rfl | (simp only [List.length_drop, List.length_take]; rfl) | (go_simp; done) | (simp; done) | (simp; rfl)) ?_; (with_reducible refine (laws_eqLayerS.calls k _ _ r _ _ r true _ ?side1 ?side2 ?side3 ?side4 heqr).mono ?_); (case side1 => exact (Kd.R_reads' (by (with_reducible repeat (first | apply Kd.R_alloc | apply Kd.R_drewN | apply Kd.R_drew)); exact HG.out)).2.2); (case side2 => exact (Kd.R_reads' HG.out).2.1); (case side3 => exact (Kd.R_reads' (by (with_reducible repeat (first | apply Kd.R_alloc | apply Kd.R_drewN | apply Kd.R_drew)); exact HW.out)).2.2); (case side4 => exact (Kd.R_reads' HW.out).2.1); rintro e we1 ⟨rfl, hb⟩; refine ⟨_, rfl, ?_⟩; have n0_ := Aside0.mk (Kd.R_below (by (with_reducible repeat (first | apply Kd.R_alloc | apply Kd.R_drewN | apply Kd.R_drew)); exact HW.out) hb); have n1_ := Aside0.mk (Kd.R_below (by (with_reducible repeat (first | apply Kd.R_alloc | apply Kd.R_drewN | apply Kd.R_drew)); exact HX.out) hb); have n2_ := Aside0.mk (Kd.R_below (by (with_reducible repeat (first | apply Kd.R_alloc | apply Kd.R_drewN | apply Kd.R_drew)); exact HG.out) hb); have nb_ := Aside0.mk (below_step (by repeat (first | (with_reducible first | exact HB.out | apply below_alloc | apply pw_below_drewN | apply below_drew1) | exact HB.out)) hb); clear HW; clear HX; clear HG; clear HB; have HW := n0_; have HX := n1_; have HG := n2_; have HB := nb_; clear n0_ n1_ n2_ nb_; clear hb) | ((with_reducible refine gate_callee (f := 16) rfl ?_); refine goesL_ (some 51) rfl rfl Try.func16 (by kernel_rfl) rfl #[.slice A0 l0.length c0, .bool false] rfl (by (try simp only [List.map_toArray, List.map_cons, List.map_nil]); first | done | rfl | (simp only [List.length_drop, List.length_take]; rfl) | (go_simp; done) | (simp; done) | (simp; rfl)) ?_; (with_reducible refine (laws_toLayerSF.calls k _ _ l0 false L _ ?side1 ?side2 hfull).mono ?_); (case side1 => repeat (first | exact (Kd.C_below HR0.out (by repeat (first | (with_reducible first | exact HB.out | apply below_alloc | apply pw_below_drewN | apply below_drew1) | exact HB.out))) | (with_reducible refine Kd.C_alloc ?_ _) | (with_reducible refine Kd.C_drewN ?_ _) | (with_reducible refine Kd.C_drew ?_))); (case side2 => exact HC0.out); rintro e wy ⟨Ay, cy, rfl, hR, _, hb⟩; refine ⟨_, rfl, ?_⟩; have HKy := Aside0.mk (Kd.R_reads' hR).2.2; have HLy := Aside0.mk (Kd.R_reads' hR).2.1; clear hR; have n0_ := Aside0.mk (Kd.R_below (by (with_reducible repeat (first | apply Kd.R_alloc | apply Kd.R_drewN | apply Kd.R_drew)); exact HW.out) hb); have n1_ := Aside0.mk (Kd.R_below (by (with_reducible repeat (first | apply Kd.R_alloc | apply Kd.R_drewN | apply Kd.R_drew)); exact HX.out) hb); have n2_ := Aside0.mk (Kd.R_below (by (with_reducible repeat (first | apply Kd.R_alloc | apply Kd.R_drewN | apply Kd.R_drew)); exact HG.out) hb); have nb_ := Aside0.mk (below_step (by repeat (first | (with_reducible first | exact HB.out | apply below_alloc | apply pw_below_drewN | apply below_drew1) | exact HB.out)) hb); clear HW; clear HX; clear HG; clear HB; have HW := n0_; have HX := n1_; have HG := n2_; have HB := nb_; clear n0_ n1_ n2_ nb_; clear hb) | ((with_reducible refine gate_callee (f := 18) rfl ?_); refine goesL_ (some 52) rfl rfl Try.func18 (by kernel_rfl) rfl #[.slice Ax l0.length cx, .slice Ay l0.length cy] rfl (by (try simp only [List.map_toArray, List.map_cons, List.map_nil]); first | done | rfl | (simp only [List.length_drop, List.length_take]; rfl) | (go_simp; done) | (simp; done) | (simp; rfl)) ?_; (with_reducible refine (laws_intactLayerSF.calls k l0.length _ _ L _ _ L room _ ?side1 ?side2 ?side3 ?side4 hroom hn hr0_ hr1_ hLr hLr heq).mono ?_); (case side1 => exact (Kd.R_reads' (by (with_reducible repeat (first | apply Kd.R_alloc | apply Kd.R_drewN | apply Kd.R_drew)); exact HX.out)).2.2); (case side2 => exact HLx.out); (case side3 => repeat (first | exact HKy.out | (with_reducible refine Kd.C_alloc ?_ _) | (with_reducible refine Kd.C_drewN ?_ _) | (with_reducible refine Kd.C_drew ?_))); (case side4 => exact HLy.out); rintro e ws ⟨rfl, hb⟩; refine ⟨_, rfl, ?_⟩; have n0_ := Aside0.mk (Kd.R_below (by (with_reducible repeat (first | apply Kd.R_alloc | apply Kd.R_drewN | apply Kd.R_drew)); exact HW.out) hb); have n1_ := Aside0.mk (Kd.R_below (by (with_reducible repeat (first | apply Kd.R_alloc | apply Kd.R_drewN | apply Kd.R_drew)); exact HX.out) hb); have n2_ := Aside0.mk (Kd.R_below (by (with_reducible repeat (first | apply Kd.R_alloc | apply Kd.R_drewN | apply Kd.R_drew)); exact HG.out) hb); have n3_ := Aside0.mk (Kd.C_below (by repeat (first | exact HKy.out | (with_reducible refine Kd.C_alloc ?_ _) | (with_reducible refine Kd.C_drewN ?_ _) | (with_reducible refine Kd.C_drew ?_))) hb); have nb_ := Aside0.mk (below_step (by repeat (first | (with_reducible first | exact HB.out | apply below_alloc | apply pw_below_drewN | apply below_drew1) | exact HB.out)) hb); clear HW; clear HX; clear HG; clear HKy; clear HB; have HW := n0_; have HX := n1_; have HG := n2_; have HKy := n3_; have HB := nb_; clear n0_ n1_ n2_ n3_ nb_; clear hb) | ((with_reducible refine gate_callee (f := 30) rfl ?_); refine goesL_ (some 56) rfl rfl Try.func30 (by kernel_rfl) rfl #[.slice Ax l0.length cx, .int .i64 101] rfl (by (try simp only [List.map_toArray, List.map_cons, List.map_nil]); first | done | rfl | (simp only [List.length_drop, List.length_take]; rfl) | (go_simp; done) | (simp; done) | (simp; rfl)) ?_; (with_reducible refine (laws_markLayerS.calls k (fun k_ => some k_ = (.slice Ax l0.length cx : Value).ownBlock) (.slice Ax l0.length cx) M 101 kx Mx w _ ?side1 ?side2 hmx).mono ?_); (case side1 => repeat (first | (with_reducible first | exact HB.out | apply below_alloc | apply pw_below_drewN | apply below_drew1) | exact HB.out)); (case side2 => exact (takeR hLt hM hLl0 (by (with_reducible repeat (first | apply Kd.R_alloc | apply Kd.R_drewN | apply Kd.R_drew)); exact HX.out))); rintro e wk ⟨rfl, _, hb0, hkp⟩; refine ⟨_, rfl, ?_⟩; have n0_ := Aside0.mk (R_keptT rfl (by (with_reducible repeat (first | apply Kd.R_alloc | apply Kd.R_drewN | apply Kd.R_drew)); exact HW.out) hkp (fun k_ hk_ he_ => NWX.out k_ hk_ (he_.trans (own_same _ _ _ _)))); have n1_ := Aside0.mk (R_keptT rfl (by (with_reducible repeat (first | apply Kd.R_alloc | apply Kd.R_drewN | apply Kd.R_drew)); exact HG.out) hkp (fun k_ hk_ he_ => NXG.out k_ ((own_same _ _ _ _).trans he_.symm) hk_.symm)); have nb_ := Aside0.mk (hb0); clear HW; clear HG; clear HB; have HW := n0_; have HG := n1_; have HB := nb_; clear n0_ n1_ nb_; clear hb0 hkp; clear HX NWX NXG) | (go_at_call 29; (with_reducible refine (laws_eqLayerS.calls k _ _ r _ _ r true _ ?side1 ?side2 ?side3 ?side4 heqr).mono ?_); (case side1 => exact (Kd.R_reads' (by (with_reducible repeat (first | apply Kd.R_alloc | apply Kd.R_drewN | apply Kd.R_drew)); exact HG.out)).2.2); (case side2 => exact (Kd.R_reads' HG.out).2.1); (case side3 => exact (Kd.R_reads' (by (with_reducible repeat (first | apply Kd.R_alloc | apply Kd.R_drewN | apply Kd.R_drew)); exact HW.out)).2.2); (case side4 => exact (Kd.R_reads' HW.out).2.1); rintro e we2 ⟨rfl, hb⟩; have n0_ := Aside0.mk (Kd.R_below (by (with_reducible repeat (first | apply Kd.R_alloc | apply Kd.R_drewN | apply Kd.R_drew)); exact HW.out) hb); have n1_ := Aside0.mk (Kd.R_below (by (with_reducible repeat (first | apply Kd.R_alloc | apply Kd.R_drewN | apply Kd.R_drew)); exact HG.out) hb); have nb_ := Aside0.mk (below_step (by repeat (first | (with_reducible first | exact HB.out | apply below_alloc | apply pw_below_drewN | apply below_drew1) | exact HB.out)) hb); clear HW; clear HG; clear HB; have HW := n0_; have HG := n1_; have HB := nb_; clear n0_ n1_ nb_; clear hb) | ((with_reducible refine gate_callee (f := 30) rfl ?_); refine goesL_ (some 72) rfl rfl Try.func30 (by kernel_rfl) rfl #[.slice Ag r.length cg, .int .i64 101] rfl (by (try simp only [List.map_toArray, List.map_cons, List.map_nil]); first | done | rfl | (simp only [List.length_drop, List.length_take]; rfl) | (go_simp; done) | (simp; done) | (simp; rfl)) ?_; (with_reducible refine (laws_markLayerS.calls k (fun k_ => some k_ = (.slice Ag r.length cg : Value).ownBlock) (.slice Ag r.length cg) r 101 km Mg w _ ?side1 ?side2 hmg).mono ?_); (case side1 => repeat (first | (with_reducible first | exact HB.out | apply below_alloc | apply pw_below_drewN | apply below_drew1) | exact HB.out)); (case side2 => exact (Kd.R_tight rfl (by (with_reducible repeat (first | apply Kd.R_alloc | apply Kd.R_drewN | apply Kd.R_drew)); exact HG.out))); rintro e wl ⟨rfl, hRg, hb0, hkp⟩; refine ⟨_, rfl, ?_⟩; have n0_ := Aside0.mk (R_keptT rfl (by (with_reducible repeat (first | apply Kd.R_alloc | apply Kd.R_drewN | apply Kd.R_drew)); exact HW.out) hkp (fun k_ hk_ => NWG.out k_ hk_)); have nb_ := Aside0.mk (hb0); clear HW; clear HB; have HW := n0_; have HB := nb_; clear n0_ nb_; clear hb0 hkp; have HM := Aside0.mk (Kd.R_mono (ok' := fun _ => True) hRg (fun _ _ => trivial)); clear hRg HG NWG) | ((with_reducible refine gate_callee (f := 31) rfl ?_); refine goesL_ (some 75) rfl rfl Try.func31 (by kernel_rfl) rfl #[.slice Ag r.length cg, .int .i64 101] rfl (by (try simp only [List.map_toArray, List.map_cons, List.map_nil]); first | done | rfl | (simp only [List.length_drop, List.length_take]; rfl) | (go_simp; done) | (simp; done) | (simp; rfl)) ?_; (with_reducible refine (hheld _ _ _ ?side1 ?side2).mono ?_); (case side1 => exact (Kd.R_reads' (by (with_reducible repeat (first | apply Kd.R_alloc | apply Kd.R_drewN | apply Kd.R_drew)); exact HM.out)).2.2); (case side2 => exact (Kd.R_reads' HM.out |> fun z_ => z_.1 ▸ z_.2.1)); rintro e wm ⟨rfl, hd⟩; have hb := drawn_below hd; clear hd; refine ⟨_, rfl, ?_⟩; have n0_ := Aside0.mk (Kd.R_below (by (with_reducible repeat (first | apply Kd.R_alloc | apply Kd.R_drewN | apply Kd.R_drew)); exact HW.out) hb); have n1_ := Aside0.mk (Kd.R_below (by (with_reducible repeat (first | apply Kd.R_alloc | apply Kd.R_drewN | apply Kd.R_drew)); exact HM.out) hb); have nb_ := Aside0.mk (below_step (by repeat (first | (with_reducible first | exact HB.out | apply below_alloc | apply pw_below_drewN | apply below_drew1) | exact HB.out)) hb); clear HW; clear HM; clear HB; have HW := n0_; have HM := n1_; have HB := nb_; clear n0_ n1_ nb_; clear hb) | ((with_reducible refine gate_callee (f := 16) rfl ?_); refine goesL_ (some 83) rfl rfl Try.func16 (by kernel_rfl) rfl #[.slice A0 l0.length c0, .bool true] rfl (by (try simp only [List.map_toArray, List.map_cons, List.map_nil]); first | done | rfl | (simp only [List.length_drop, List.length_take]; rfl) | (go_simp; done) | (simp; done) | (simp; rfl)) ?_; (with_reducible refine (laws_toLayerS.calls k _ _ l0 true M _ ?side1 ?side2 hbare).mono ?_); (case side1 => repeat (first | exact (Kd.C_below HR0.out (by repeat (first | (with_reducible first | exact HB.out | apply below_alloc | apply pw_below_drewN | apply below_drew1) | exact HB.out))) | (with_reducible refine Kd.C_alloc ?_ _) | (with_reducible refine Kd.C_drewN ?_ _) | (with_reducible refine Kd.C_drew ?_))); (case side2 => exact HC0.out); rintro e wz ⟨vz, rfl, hR, hb⟩; obtain ⟨Az, cz, ez⟩ := Kd.R_slice hR; subst ez; refine ⟨_, rfl, ?_⟩; have HKz := Aside0.mk (Kd.R_reads' hR).2.2; have HLz := Aside0.mk (Kd.R_reads' hR).2.1; clear hR; have n0_ := Aside0.mk (Kd.R_below (by (with_reducible repeat (first | apply Kd.R_alloc | apply Kd.R_drewN | apply Kd.R_drew)); exact HW.out) hb); have n1_ := Aside0.mk (Kd.R_below (by (with_reducible repeat (first | apply Kd.R_alloc | apply Kd.R_drewN | apply Kd.R_drew)); exact HM.out) hb); have nb_ := Aside0.mk (below_step (by repeat (first | (with_reducible first | exact HB.out | apply below_alloc | apply pw_below_drewN | apply below_drew1) | exact HB.out)) hb); clear HW; clear HM; clear HB; have HW := n0_; have HM := n1_; have HB := nb_; clear n0_ n1_ nb_; clear hb) | ((with_reducible refine gate_callee (f := 37) rfl ?_); refine goesL_ (some 86) rfl rfl Try.func37 (by kernel_rfl) rfl #[.slice Az M.length cz, .int .i64 a1, .int .i64 a2] rfl (by (try simp only [List.map_toArray, List.map_cons, List.map_nil]); first | done | rfl | (simp only [List.length_drop, List.length_take]; rfl) | (go_simp; done) | (simp; done) | (simp; rfl)) ?_; (with_reducible refine (impl_WidenWind.calls k _ _ M a1 a2 r t _ ?side1 ?side2 himp).mono ?_); (case side1 => repeat (first | exact HKz.out | (with_reducible refine Kd.C_alloc ?_ _) | (with_reducible refine Kd.C_drewN ?_ _) | (with_reducible refine Kd.C_drew ?_))); (case side2 => exact HLz.out); rintro e wt ⟨vh, rfl, hR, hb⟩; refine ⟨_, rfl, ?_⟩; obtain ⟨Ah, ch, eh⟩ := Kd.R_slice hR; subst eh; have HH := Aside0.mk (Kd.R_lower hR (below_size (by repeat (first | (with_reducible first | exact HB.out | apply below_alloc | apply pw_below_drewN | apply below_drew1) | exact HB.out)))); clear hR; have n0_ := Aside0.mk (Kd.R_below (by (with_reducible repeat (first | apply Kd.R_alloc | apply Kd.R_drewN | apply Kd.R_drew)); exact HW.out) hb); have n1_ := Aside0.mk (Kd.R_below (by (with_reducible repeat (first | apply Kd.R_alloc | apply Kd.R_drewN | apply Kd.R_drew)); exact HM.out) hb); have n2_ := Aside0.mk (Kd.C_below (by repeat (first | exact HKz.out | (with_reducible refine Kd.C_alloc ?_ _) | (with_reducible refine Kd.C_drewN ?_ _) | (with_reducible refine Kd.C_drew ?_))) hb); have nb_ := Aside0.mk (below_step (by repeat (first | (with_reducible first | exact HB.out | apply below_alloc | apply pw_below_drewN | apply below_drew1) | exact HB.out)) hb); clear HW; clear HM; clear HKz; clear HB; have HW := n0_; have HM := n1_; have HKz := n2_; have HB := nb_; clear n0_ n1_ n2_ nb_; clear hb) | ((with_reducible refine gate_callee (f := 29) rfl ?_); refine goesL_ (some 91) rfl rfl Try.func29 (by kernel_rfl) rfl #[.slice Ah r.length ch, .slice Aw r.length cw] rfl (by (try simp only [List.map_toArray, List.map_cons, List.map_nil]); first | done | rfl | (simp only [List.length_drop, List.length_take]; rfl) | (go_simp; done) | (simp; done) | (simp; rfl)) ?_; (with_reducible refine (laws_eqLayerS.calls k _ _ r _ _ r true _ ?side1 ?side2 ?side3 ?side4 heqr).mono ?_); (case side1 => exact (Kd.R_reads' (by (with_reducible repeat (first | apply Kd.R_alloc | apply Kd.R_drewN | apply Kd.R_drew)); exact HH.out)).2.2); (case side2 => exact (Kd.R_reads' HH.out).2.1); (case side3 => exact (Kd.R_reads' (by (with_reducible repeat (first | apply Kd.R_alloc | apply Kd.R_drewN | apply Kd.R_drew)); exact HW.out)).2.2); (case side4 => exact (Kd.R_reads' HW.out).2.1); rintro e we3 ⟨rfl, hb⟩; refine ⟨_, rfl, ?_⟩; have n0_ := Aside0.mk (Kd.R_below (by (with_reducible repeat (first | apply Kd.R_alloc | apply Kd.R_drewN | apply Kd.R_drew)); exact HW.out) hb); have n1_ := Aside0.mk (Kd.R_below (by (with_reducible repeat (first | apply Kd.R_alloc | apply Kd.R_drewN | apply Kd.R_drew)); exact HM.out) hb); have n2_ := Aside0.mk (Kd.R_below (by (with_reducible repeat (first | apply Kd.R_alloc | apply Kd.R_drewN | apply Kd.R_drew)); exact HH.out) hb); have nb_ := Aside0.mk (below_step (by repeat (first | (with_reducible first | exact HB.out | apply below_alloc | apply pw_below_drewN | apply below_drew1) | exact HB.out)) hb); clear HW; clear HM; clear HH; clear HB; have HW := n0_; have HM := n1_; have HH := n2_; have HB := nb_; clear n0_ n1_ n2_ nb_; clear hb) | ((with_reducible refine gate_callee (f := 31) rfl ?_); refine goesL_ (some 100) rfl rfl Try.func31 (by kernel_rfl) rfl #[.slice Ag r.length cg, .int .i64 101] rfl (by (try simp only [List.map_toArray, List.map_cons, List.map_nil]); first | done | rfl | (simp only [List.length_drop, List.length_take]; rfl) | (go_simp; done) | (simp; done) | (simp; rfl)) ?_; (with_reducible refine (hheld _ _ _ ?side1 ?side2).mono ?_); (case side1 => exact (Kd.R_reads' (by (with_reducible repeat (first | apply Kd.R_alloc | apply Kd.R_drewN | apply Kd.R_drew)); exact HM.out)).2.2); (case side2 => exact (Kd.R_reads' HM.out |> fun z_ => z_.1 ▸ z_.2.1)); rintro e wn ⟨rfl, hd⟩; have hb := drawn_below hd; clear hd; refine ⟨_, rfl, ?_⟩; have n0_ := Aside0.mk (Kd.R_below (by (with_reducible repeat (first | apply Kd.R_alloc | apply Kd.R_drewN | apply Kd.R_drew)); exact HM.out) hb); have nb_ := Aside0.mk (below_step (by repeat (first | (with_reducible first | exact HB.out | apply below_alloc | apply pw_below_drewN | apply below_drew1) | exact HB.out)) hb); clear HM; clear HB; have HM := n0_; have HB := nb_; clear n0_ nb_; clear hb))
  go_ret
  exact ⟨by first | rfl | (simp [errW_none, errW_some] <;> rfl) | (simp [*, errW_none, errW_some] <;> rfl), by repeat (first | (with_reducible first | exact HB.out | apply below_alloc | apply pw_below_drewN | apply below_drew1) | exact HB.out)⟩
set_option maxHeartbeats 8000000 in
set_option maxRecDepth 100000 in
theorem big (A0 : Option Addr) (c0 : Nat) (l0 : List S64) (z a1 a2 : Int) (w : World) (hr0 : Kd.C k64 w A0 l0.length l0) (hc0 : l0.length ≤ c0) (hsz : laws_szLayerS.f l0 1000000 = some z) (hz : z < 0) : Calls Try.prog 10 #[.slice A0 l0.length c0, .int .i64 a1, .int .i64 a2] w fun e w' => e = .returned (.bool true) ∧ Below w.heap.size w w' := by
  have HR0 := Aside0.mk hr0
  have HC0 := Aside0.mk hc0
  have HB := Aside0.mk (Below.refl w.heap.size w)
  have c2b0 : decide (z < 0) = true := decide_eq_true hz
  clear hr0 hc0 hz
  go_enter Try.func10, Try.ntmps10
  go_wp2_with (first | ((with_reducible refine gate_callee (f := 14) rfl ?_); refine goesL_ (some 20) rfl rfl Try.func14 (by kernel_rfl) rfl #[.slice A0 l0.length c0, .int .i64 1000000] rfl (by (try simp only [List.map_toArray, List.map_cons, List.map_nil]); first | done | rfl | (simp only [List.length_drop, List.length_take]; rfl) | (go_simp; done) | (simp; done) | (simp; rfl)) ?_; (with_reducible refine (laws_szLayerS.calls _ _ l0 1000000 z _ ?side1 ?side2 hsz).mono ?_); (case side1 => repeat (first | exact (Kd.C_below HR0.out (by repeat (first | (with_reducible first | exact HB.out | apply below_alloc | apply pw_below_drewN | apply below_drew1) | exact HB.out))) | (with_reducible refine Kd.C_alloc ?_ _) | (with_reducible refine Kd.C_drewN ?_ _) | (with_reducible refine Kd.C_drew ?_))); (case side2 => exact HC0.out); rintro e wo ⟨rfl, hd⟩; have hb := drawn_below hd; clear hd; refine ⟨_, rfl, ?_⟩; have nb_ := Aside0.mk (below_step (by repeat (first | (with_reducible first | exact HB.out | apply below_alloc | apply pw_below_drewN | apply below_drew1) | exact HB.out)) hb); clear HB; have HB := nb_; clear nb_; clear hb))
  go_ret
  exact ⟨by first | rfl | (simp [errW_none, errW_some] <;> rfl) | (simp [*, errW_none, errW_some] <;> rfl), by repeat (first | (with_reducible first | exact HB.out | apply below_alloc | apply pw_below_drewN | apply below_drew1) | exact HB.out)⟩
theorem ofRow3 {w : World} {a : Option Addr} {len cap : Nat} {zs : List (Int × Int × Int)} (h : (a = none ∧ len = 0 ∧ cap = 0 ∧ zs = []) ∨ ∃ x, a = some x ∧ len ≤ cap ∧ cap ≤ maxLen ∧ zs.length = len ∧ ∀ i p, zs[i]? = some p → (w.cell? (x.add (i * 3 + 0)) = some (.int .i64 (p.1)) ∧ w.cell? (x.add (i * 3 + 1)) = some (.int .i64 (p.2.1)) ∧ w.cell? (x.add (i * 3 + 2)) = some (.int .i64 (p.2.2)) ∧ (Lit.int .i64 p.1).wf = true ∧ (Lit.int .i64 p.2.1).wf = true ∧ (Lit.int .i64 p.2.2).wf = true)) :
    ∃ l : List S64, len = l.length ∧ Kd.C k64 w a l.length l ∧ l.length ≤ cap ∧ l.length ≤ maxLen := by
  rcases h with ⟨rfl, rfl, rfl, rfl⟩ | ⟨x, rfl, h1, h2, h3, h4⟩
  · exact ⟨[], rfl, ⟨rfl, by simp, fun h => absurd h (by simp)⟩, by simp, by simp⟩
  · have hm := maxLen_eq
    refine ⟨zs.map fun p => ⟨p.1, p.2.1, p.2.2⟩, by simp [h3], ⟨rfl, by simp; omega, fun _ => ⟨x, rfl, fun j q hj => ?_⟩⟩, by simp; omega, by simp; omega⟩
    rw [List.getElem?_map] at hj
    obtain ⟨p, hp, rfl⟩ := Option.map_eq_some_iff.1 hj
    obtain ⟨g0, g1, g2, _⟩ := h4 j p hp
    refine ⟨_, rfl, k64_mk w _, fun i u hi => ?_⟩
    match i, hi with
    | 0, hi => simp at hi; subst hi; exact g0
    | 1, hi => simp at hi; subst hi; exact g1
    | 2, hi => simp at hi; subst hi; exact g2
    | i + 3, hi => simp at hi
theorem sz_some (l : List S64) (h : l.length ≤ maxLen) : ∃ z, laws_szLayerS.f l 1000000 = some z ∧ (¬ z < 0 → l.length ≤ 1000000) := by
  have hm := maxLen_eq
  unfold laws_szLayerS.f
  rw [w64 (n := 1000000 - (l.length : Int)) (by omega) (by omega)]
  split
  · exact ⟨_, rfl, by omega⟩
  · exact ⟨_, rfl, by omega⟩
theorem walk (W : World) (a0 : Option Addr) (len0 cap0 : Nat) (z0 : List (Int × Int × Int)) (w0 : (a0 = none ∧ len0 = 0 ∧ cap0 = 0 ∧ z0 = []) ∨ ∃ x, a0 = some x ∧ len0 ≤ cap0 ∧ cap0 ≤ maxLen ∧ z0.length = len0 ∧ ∀ i p, z0[i]? = some p → (W.cell? (x.add (i * 3 + 0)) = some (.int .i64 (p.1)) ∧ W.cell? (x.add (i * 3 + 1)) = some (.int .i64 (p.2.1)) ∧ W.cell? (x.add (i * 3 + 2)) = some (.int .i64 (p.2.2)) ∧ (Lit.int .i64 p.1).wf = true ∧ (Lit.int .i64 p.2.1).wf = true ∧ (Lit.int .i64 p.2.2).wf = true)) (a1 : Int) (_ : (Lit.int .i64 a1).wf = true) (a2 : Int) (_ : (Lit.int .i64 a2).wf = true) :
    Calls Try.prog 10 #[.slice a0 len0 cap0, .int .i64 a1, .int .i64 a2] W fun e w' => e = .returned (.bool true) ∧ Below W.heap.size W w' := by
  obtain ⟨l0, rfl, hr, hc0, hm⟩ := ofRow3 w0
  obtain ⟨z, hsz, hzz⟩ := sz_some l0 hm
  by_cases g : z < 0
  · exact big a0 cap0 l0 z a1 a2 W hr hc0 hsz g
  have hn := hzz g
  obtain ⟨room, er, r0, r1⟩ := room_some l0.length (by omega)
  obtain ⟨L, eF, hF, hT⟩ := toLayerSF_ev l0 (by omega) er r0 r1
  have hml : (l0.map cvL).length ≤ 1000000 := by simpa using hn
  have hrl : (widenM (l0.map cvL) a1 a2).1.length ≤ 1000000 := by
    unfold widenM
    split
    · show (widL (l0.map cvL) a1 a2).length ≤ 1000000
      unfold widL; rw [List.length_set]; exact hml
    · simp
  obtain ⟨K1, h1⟩ := impl_WidenWind_ev (l0.map cvL) (by omega) a1 a2
  obtain ⟨K2, h2⟩ := spec_WidenWind_ev (l0.map cvL) (by omega) a1 a2
  generalize widenM (l0.map cvL) a1 a2 = rr at h1 h2 hrl
  obtain ⟨r, t⟩ := rr
  simp only at hrl
  obtain ⟨K3, h3⟩ := eF
  obtain ⟨K4, h4⟩ := toLayerS_bare l0 (by omega)
  obtain ⟨K5, h5⟩ := eqLayerS_ev L (by omega)
  obtain ⟨K6, h6⟩ := markLayerS_ev (l0.map cvL) (m := 101) (by omega) (by omega)
  obtain ⟨K7, h7⟩ := markLayerS_ev r (m := 101) (by omega) (by omega)
  obtain ⟨K8, h8⟩ := heldLayerS_ev (n := r.length) (m := 101) (by omega) (by omega)
  obtain ⟨K9, h9⟩ := eqLayerS_ev r (by omega)
  exact go (K1 + K2 + K3 + K4 + K5 + K6 + K7 + K8 + K9) a0 cap0 l0 a1 a2 (l0.map cvL) r L _ _ z t _ _ room W hr hc0 hn hsz g (by simp) (h3 _ (by omega)) hT (by omega) (by omega) er r0 (by omega) (h4 _ (by omega)) (h2 _ (by omega)) (h1 _ (by omega)) (h9 _ (by omega)) (h5 _ (by omega)) (h6 _ (by omega)) (by omega) (h7 _ (by omega)) (by omega) (mkL_len _ _) (h8 _ (by omega))


end Go.Proofs.Ytidibjmckgbpbaa.GoFnExactWidenWind
