/- The wind of a height lies in the widest wind, and the common wind lies in that of the height and of a lower one; no condition. -/
import Derived.Test.YtidibjmckgbpbaaMa
import Derived.Test.YtidibjmckgbpbaaQFnWindsx
namespace Go.Proofs.Ytidibjmckgbpbaa.PureFnWinds
open Go.RowKit Go.Proofs.Ytidibjmckgbpbaa.QFnWinds Go.Proofs.YtidibjmckgbpbaaW.PrintWords Go.Proofs.YtidibjmckgbpbaaW.PrintLast Go.Proofs.Ytidibjmckgbpbaa.Ma
set_option linter.unusedVariables false
set_option linter.unusedSimpArgs false

/-! ### division, ranges -/
theorem in_eq (a b c : Int) : spec_l01In.f a b c = some (decide (b ≤ a ∧ a ≤ c)) := by
  unfold spec_l01In.f
  by_cases h : b ≤ a <;> simp [h]
theorem within_eq (a b c : Int) : impl_within.f a b c = some (decide (b ≤ a ∧ a ≤ c)) := by
  unfold impl_within.f
  by_cases h : b ≤ a <;> simp [h]
theorem tdiv_floor {a b : Int} (hb : 0 < b) : (Int.tmod a b < 0 → Int.tdiv a b - 1 = a / b) ∧ (¬ Int.tmod a b < 0 → Int.tdiv a b = a / b) := by
  have h1 := Int.tdiv_eq_ediv (a := a) (b := b)
  have h2 := Int.tmod_eq_emod (a := a) (b := b)
  have h3 := Int.emod_nonneg a (show b ≠ 0 by omega)
  have h4 := Int.emod_lt_of_pos a hb
  by_cases h : 0 ≤ a ∨ b ∣ a
  · rw [if_pos h] at h1 h2
    omega
  · rw [if_neg h] at h1 h2
    rw [Int.sign_eq_one_of_pos hb] at h1
    omega
theorem ediv_small {a b : Int} (hb : 0 < b) (h : -4611686018427387904 ≤ a) (h' : a ≤ 4611686018427387904) : -4611686018427387904 ≤ a / b ∧ a / b ≤ 4611686018427387904 := by
  have h1 : -4611686018427387904 * b ≤ a := by
    have := Int.mul_le_mul_of_nonneg_left (show 1 ≤ b by omega) (show (0 : Int) ≤ 4611686018427387904 by omega); omega
  have h2 : a < (4611686018427387904 + 1) * b := by
    have := Int.mul_le_mul_of_nonneg_left (show 1 ≤ b by omega) (show (0 : Int) ≤ 4611686018427387905 by omega); omega
  have h3 := (Int.le_ediv_iff_mul_le hb).2 h1
  have h4 := (Int.ediv_lt_iff_lt_mul hb).2 h2
  omega
/-! ### profiles -/
def layB (x : S55) : Bool := decide (1 ≤ x.f0 ∧ x.f0 ≤ 1000000) && (decide (-50000 ≤ x.f1 ∧ x.f1 ≤ 50000) && decide (x.f1 ≤ x.f2 ∧ x.f2 ≤ 50000))
def profL : Option S55 → List S55 → Bool
  | _, [] => true
  | none, x :: R => layB x && profL (some x) R
  | some q, x :: R => layB x && (decide (q.f0 < x.f0) && profL (some x) R)
def profB (m : List S55) : Bool := decide (1 ≤ m.length ∧ m.length ≤ 6) && profL none m
def prevAt (l : List S55) (i : Nat) : Option S55 := if i = 0 then none else some (rdOf z55 l ((i : Int) - 1))
theorem prev_next {l R : List S55} {i : Nat} {c : S55} (h : l.drop i = c :: R) : prevAt l (i + 1) = some c := by
  obtain ⟨h1, h2, h3⟩ := rdOf_drop (d := z55) h
  unfold prevAt
  rw [if_neg (by omega), show ((i + 1 : Nat) : Int) - 1 = (i : Int) by omega, h2]
theorem spec_IsProfile_l0 (l : List S55) (hl : l.length ≤ 4611686018427387904) : ∀ (R : List S55) (i : Nat), l.drop i = R → Ev (fun k => spec_IsProfile.l0 k l i) (profL (prevAt l i) R && decide (1 ≤ l.length ∧ l.length ≤ 6)) := by
  intro R
  induction R with
  | nil =>
    intro i h
    have := drop_nil h
    refine Ev.step (fun k => spec_IsProfile.l0.eq_2 ..) (ev_neg (by omega) (ev_bind0 (in_eq ..) (ev_ret ?_)))
    have e : profL (prevAt l i) [] = true := by unfold profL; rfl
    rw [e, Bool.true_and]
    exact decide_eq_decide.2 (by omega)
  | cons c R ih =>
    intro i h
    obtain ⟨h1, h2, h3⟩ := rdOf_drop (d := z55) h
    have h2' : rd_T55 l (i : Int) = c := h2
    refine Ev.step (fun k => spec_IsProfile.l0.eq_2 ..) (ev_pos (by omega) (ev_pos (by omega) ?_))
    rw [h2', w64 (n := (i : Int) + 1) (by omega) (by omega)]
    have hn := ih (i + 1) h3
    rw [prev_next h] at hn
    refine ev_bind0 (in_eq ..) ?_
    by_cases a : 1 ≤ c.f0 ∧ c.f0 ≤ 1000000
    · refine ev_pos (by simpa using a) (ev_bind0 (in_eq ..) ?_)
      by_cases b : -50000 ≤ c.f1 ∧ c.f1 ≤ 50000
      · refine ev_pos (by simpa using b) (ev_bind0 (in_eq ..) ?_)
        by_cases d : c.f1 ≤ c.f2 ∧ c.f2 ≤ 50000
        · refine ev_pos (by simpa using d) ?_
          have hc : layB c = true := by unfold layB; simp [a, b, d]
          by_cases g : (i : Int) > 0
          · refine ev_pos g ?_
            rw [w64 (n := (i : Int) - 1) (by omega) (by omega)]
            refine ev_pos (by omega) (ev_pos (by omega) ?_)
            have hp : prevAt l i = some (rdOf z55 l ((i : Int) - 1)) := by unfold prevAt; rw [if_neg (by omega)]
            rw [hp]
            by_cases u : (rd_T55 l ((i : Int) - 1)).f0 ≥ c.f0
            · refine ev_pos u (ev_ret ?_)
              have u' : ¬ (rdOf z55 l ((i : Int) - 1)).f0 < c.f0 := by
                have : rd_T55 l ((i : Int) - 1) = rdOf z55 l ((i : Int) - 1) := rfl
                rw [← this]; omega
              simp [profL, u']
            · refine ev_neg u ?_
              have u' : (rdOf z55 l ((i : Int) - 1)).f0 < c.f0 := by
                have : rd_T55 l ((i : Int) - 1) = rdOf z55 l ((i : Int) - 1) := rfl
                rw [← this]; omega
              have e : profL (some (rdOf z55 l ((i : Int) - 1))) (c :: R) = profL (some c) R := by simp [profL, hc, u']
              rw [e]; exact hn
          · refine ev_neg g ?_
            have hp : prevAt l i = none := by unfold prevAt; rw [if_pos (by omega)]
            have e : profL none (c :: R) = profL (some c) R := by simp [profL, hc]
            rw [hp, e]; exact hn
        · refine ev_neg (by simpa using d) (ev_ret ?_)
          have hc : layB c = false := by unfold layB; simp [d]
          cases prevAt l i <;> simp [profL, hc]
      · refine ev_neg (by simpa using b) (ev_ret ?_)
        have hc : layB c = false := by unfold layB; simp [b]
        cases prevAt l i <;> simp [profL, hc]
    · refine ev_neg (by simpa using a) (ev_ret ?_)
      have hc : layB c = false := by unfold layB; simp [a]
      cases prevAt l i <;> simp [profL, hc]
theorem spec_IsProfile_ev (l : List S55) (hl : l.length ≤ 4611686018427387904) : Ev (fun k => spec_IsProfile.f k l) (profB l) := by
  have h := spec_IsProfile_l0 l hl l 0 rfl
  have e : profB l = (profL (prevAt l 0) l && decide (1 ≤ l.length ∧ l.length ≤ 6)) := by unfold profB prevAt; rw [if_pos rfl, Bool.and_comm]
  rw [e]; exact h
theorem isSide_eq (n : Int) : impl_isSide.f n = some (decide (-50000 ≤ n ∧ n ≤ 50000)) := by unfold impl_isSide.f; rw [within_eq]; rfl
theorem areWinds_eq (a b : Int) : impl_areWinds.f a b = some (decide (-50000 ≤ a ∧ a ≤ 50000) && decide (a ≤ b ∧ b ≤ 50000)) := by
  unfold impl_areWinds.f
  rw [isSide_eq, isSide_eq]
  simp only [Option.bind_some]
  by_cases h : -50000 ≤ a ∧ a ≤ 50000
  · rw [if_pos (by simpa using h)]
    by_cases g : -50000 ≤ b ∧ b ≤ 50000
    · rw [if_pos (by simpa using g)]
      simp [h]; omega
    · rw [if_neg (by simpa using g)]
      simp [h]; omega
  · rw [if_neg (by simpa using h)]
    simp [h]
theorem impl_IsProfile_l0 (l : List S55) (hl : l.length ≤ 4611686018427387904) : ∀ (R : List S55) (i : Nat), l.drop i = R → Ev (fun k => impl_IsProfile.l0 k l l (l.length : Int) i) (profL (prevAt l i) R) := by
  intro R
  induction R with
  | nil =>
    intro i h
    have := drop_nil h
    refine Ev.step (fun k => impl_IsProfile.l0.eq_2 ..) (ev_neg (by omega) (ev_ret ?_))
    unfold profL; rfl
  | cons c R ih =>
    intro i h
    obtain ⟨h1, h2, h3⟩ := rdOf_drop (d := z55) h
    have h2' : rd_T55 l (i : Int) = c := h2
    refine Ev.step (fun k => impl_IsProfile.l0.eq_2 ..) (ev_pos (by omega) (ev_pos (by omega) (ev_pos (by omega) ?_)))
    rw [h2', w64 (n := (i : Int) + 1) (by omega) (by omega)]
    have hn := ih (i + 1) h3
    rw [prev_next h] at hn
    refine ev_bind0 (within_eq ..) ?_
    by_cases a : 1 ≤ c.f0 ∧ c.f0 ≤ 1000000
    · refine ev_pos (by simpa using a) (ev_bind0 (areWinds_eq ..) ?_)
      by_cases b : (decide (-50000 ≤ c.f1 ∧ c.f1 ≤ 50000) && decide (c.f1 ≤ c.f2 ∧ c.f2 ≤ 50000)) = true
      · refine ev_pos b ?_
        have hc : layB c = true := by unfold layB; rw [b]; simp [a]
        by_cases g : (i : Int) > 0
        · refine ev_pos g ?_
          rw [w64 (n := (i : Int) - 1) (by omega) (by omega)]
          refine ev_pos (by omega) (ev_pos (by omega) ?_)
          have hp : prevAt l i = some (rdOf z55 l ((i : Int) - 1)) := by unfold prevAt; rw [if_neg (by omega)]
          rw [hp]
          by_cases u : (rd_T55 l ((i : Int) - 1)).f0 ≥ c.f0
          · refine ev_pos u (ev_ret ?_)
            have u' : ¬ (rdOf z55 l ((i : Int) - 1)).f0 < c.f0 := by
              have : rd_T55 l ((i : Int) - 1) = rdOf z55 l ((i : Int) - 1) := rfl
              rw [← this]; omega
            simp [profL, u']
          · refine ev_neg u ?_
            have u' : (rdOf z55 l ((i : Int) - 1)).f0 < c.f0 := by
              have : rd_T55 l ((i : Int) - 1) = rdOf z55 l ((i : Int) - 1) := rfl
              rw [← this]; omega
            have e : profL (some (rdOf z55 l ((i : Int) - 1))) (c :: R) = profL (some c) R := by simp [profL, hc, u']
            rw [e]; exact hn
        · refine ev_neg g ?_
          have hp : prevAt l i = none := by unfold prevAt; rw [if_pos (by omega)]
          have e : profL none (c :: R) = profL (some c) R := by simp [profL, hc]
          rw [hp, e]; exact hn
      · refine ev_neg b (ev_ret ?_)
        have hc : layB c = false := by unfold layB; simp only [Bool.not_eq_true] at b; rw [b]; simp
        cases prevAt l i <;> simp [profL, hc]
    · refine ev_neg (by simpa using a) (ev_ret ?_)
      have hc : layB c = false := by unfold layB; simp [a]
      cases prevAt l i <;> simp [profL, hc]
theorem impl_IsProfile_ev (l : List S55) (hl : l.length ≤ 4611686018427387904) : Ev (fun k => impl_IsProfile.f k l) (profB l) := by
  have h := impl_IsProfile_l0 l hl l 0 rfl
  have e0 : prevAt l 0 = none := by unfold prevAt; rw [if_pos rfl]
  rw [e0] at h
  unfold impl_IsProfile.f profB
  by_cases a : (l.length : Int) < 1
  · refine ev_pos a (Ev.step (fun k => impl_IsProfile.j0.eq_2 ..) (ev_pos rfl (ev_ret ?_)))
    simp; omega
  · refine ev_neg a (Ev.step (fun k => impl_IsProfile.j0.eq_2 ..) ?_)
    by_cases b : (l.length : Int) > 6
    · refine ev_pos (by simpa using b) (ev_ret ?_)
      simp; omega
    · refine ev_neg (by simpa using b) ?_
      have e : (decide (1 ≤ l.length ∧ l.length ≤ 6) && profL none l) = profL none l := by
        simp; intro _; omega
      rw [e]; exact h

/-! ### the first gust -/
def findF (h : Int) : List S55 → Nat → Int
  | [], _ => -1
  | c :: R, i => if h ≤ c.f0 then (i : Int) else findF h R (i + 1)
def findM (l : List S55) (h : Int) : Int := findF h l 0
theorem findF_lt (h : Int) : ∀ (R : List S55) (i : Nat), findF h R i < (i + R.length : Nat) ∧ -1 ≤ findF h R i
  | [], i => by unfold findF; constructor <;> omega
  | c :: R, i => by
    unfold findF
    have := findF_lt h R (i + 1)
    simp only [List.length_cons]
    split
    · omega
    · omega
theorem findM_lt (l : List S55) (h : Int) : findM l h < (l.length : Int) := by have := (findF_lt h l 0).1; unfold findM; omega
theorem impl_layerOf_l0 (l : List S55) (hl : l.length ≤ 4611686018427387904) (h : Int) : ∀ (R : List S55) (i : Nat), l.drop i = R → Ev (fun k => impl_layerOf.l0 k h l (l.length : Int) i) (findF h R i) := by
  intro R
  induction R with
  | nil =>
    intro i e
    have := drop_nil e
    exact Ev.step (fun k => impl_layerOf.l0.eq_2 ..) (ev_neg (by omega) (Ev.now _))
  | cons c R ih =>
    intro i e
    obtain ⟨h1, h2, h3⟩ := rdOf_drop (d := z55) e
    have h2' : rd_T55 l (i : Int) = c := h2
    refine Ev.step (fun k => impl_layerOf.l0.eq_2 ..) (ev_pos (by omega) (ev_pos (by omega) (ev_pos (by omega) ?_)))
    rw [h2', w64 (n := (i : Int) + 1) (by omega) (by omega)]
    unfold findF
    by_cases g : h ≤ c.f0
    · exact ev_pos g (ev_ret (by rw [if_pos g]))
    · rw [if_neg g]; exact ev_neg g (ih (i + 1) h3)
theorem impl_layerOf_ev (l : List S55) (hl : l.length ≤ 4611686018427387904) (h : Int) : Ev (fun k => impl_layerOf.f k l h) (findM l h) := impl_layerOf_l0 l hl h l 0 rfl
theorem spec_l05Find_l0 (l : List S55) (hl : l.length ≤ 4611686018427387904) (h : Int) : ∀ (R : List S55) (i : Nat), l.drop i = R → Ev (fun k => spec_l05Find.l0 k l h i) (findF h R i) := by
  intro R
  induction R with
  | nil =>
    intro i e
    have := drop_nil e
    exact Ev.step (fun k => spec_l05Find.l0.eq_2 ..) (ev_neg (by omega) (Ev.now _))
  | cons c R ih =>
    intro i e
    obtain ⟨h1, h2, h3⟩ := rdOf_drop (d := z55) e
    have h2' : rd_T55 l (i : Int) = c := h2
    refine Ev.step (fun k => spec_l05Find.l0.eq_2 ..) (ev_pos (by omega) (ev_pos (by omega) ?_))
    rw [h2', w64 (n := (i : Int) + 1) (by omega) (by omega)]
    unfold findF
    by_cases g : h ≤ c.f0
    · exact ev_pos g (ev_ret (by rw [if_pos g]))
    · rw [if_neg g]; exact ev_neg (by omega) (ih (i + 1) h3)
theorem spec_l05Find_ev (l : List S55) (hl : l.length ≤ 4611686018427387904) (h : Int) : Ev (fun k => spec_l05Find.f k l h) (findM l h) := spec_l05Find_l0 l hl h l 0 rfl
def windM (l : List S55) (h : Int) : Int × Int × Int :=
  if profB l = true then (if 0 ≤ h ∧ h ≤ 1000000 then (if findM l h < 0 then (0, 0, 4) else ((rd_T55 l (findM l h)).f1, (rd_T55 l (findM l h)).f2, 0)) else (0, 0, 2)) else (0, 0, 1)
theorem spec_l05Code_ev (l : List S55) (hl : l.length ≤ 1000000000) (h : Int) : Ev (fun k => spec_l05Code.f k l h) (if profB l = true then (if 0 ≤ h ∧ h ≤ 1000000 then (if findM l h < 0 then 4 else 0) else 2) else 1) := by
  refine (spec_IsProfile_ev l (by omega)).bind ?_
  by_cases a : profB l = true
  · refine ev_pos a (ev_bind0 (in_eq ..) ?_)
    by_cases b : 0 ≤ h ∧ h ≤ 1000000
    · refine ev_pos (by simpa using b) ((spec_l05Find_ev l (by omega) h).bind ?_)
      by_cases c : findM l h < 0
      · exact ev_pos c (ev_ret (by rw [if_pos a, if_pos b, if_pos c]))
      · exact ev_neg c (ev_ret (by rw [if_pos a, if_pos b, if_neg c]))
    · exact ev_neg (by simpa using b) (ev_ret (by rw [if_pos a, if_neg b]))
  · exact ev_neg a (ev_ret (by rw [if_neg a]))
theorem spec_WindAt_ev (l : List S55) (hl : l.length ≤ 1000000000) (h : Int) : Ev (fun k => spec_WindAt.f k l h) (windM l h) := by
  refine (spec_l05Code_ev l hl h).bind ?_
  have hlt := findM_lt l h
  unfold windM
  by_cases a : profB l = true
  · by_cases b : 0 ≤ h ∧ h ≤ 1000000
    · by_cases c : findM l h < 0
      · exact ev_neg (by rw [if_pos a, if_pos b, if_pos c]; decide) (ev_ret (by rw [if_pos a, if_pos b, if_pos c, if_pos a, if_pos b, if_pos c]))
      · refine ev_pos (by rw [if_pos a, if_pos b, if_neg c]) ((spec_l05Find_ev l (by omega) h).bind ?_)
        refine ev_pos (by omega) ?_
        exact ev_pos (by omega) (ev_ret (by rw [if_pos a, if_pos b, if_neg c]))
    · exact ev_neg (by rw [if_pos a, if_neg b]; decide) (ev_ret (by rw [if_pos a, if_neg b, if_pos a, if_neg b]))
  · exact ev_neg (by rw [if_neg a]; decide) (ev_ret (by rw [if_neg a, if_neg a]))
theorem take_last (l : List S55) {t : Int} (h0 : 0 ≤ t) (h1 : t < l.length) : rd_T55 (l.take (t + 1).toNat) (((l.take (t + 1).toNat).length : Int) - 1) = rd_T55 l t := by
  have hl : (l.take (t + 1).toNat).length = (t + 1).toNat := by rw [List.length_take]; omega
  rw [hl, show (((t + 1).toNat : Nat) : Int) - 1 = t by omega]
  unfold rd_T55
  simp only [List.getD_eq_getElem?_getD, List.getElem?_take]
  rw [if_pos (by omega)]
theorem within_f (h : Int) : impl_within.f h 0 1000000 = some (decide (0 ≤ h ∧ h ≤ 1000000)) := within_eq ..

/-! ### the widest and the common wind, calm -/
def wideF : List S55 → Int × Int → Int × Int
  | [], r => r
  | c :: R, r => wideF R (mn r.1 c.f1, mx r.2 c.f2)
def commF : List S55 → Int × Int → Int × Int
  | [], r => r
  | c :: R, r => commF R (mx r.1 c.f1, mn r.2 c.f2)
def partM (l : List S55) (h : Int) : List S55 := l.take (findM l h + 1).toNat
def codeM (l : List S55) (h : Int) : Int := if profB l = true then (if 0 ≤ h ∧ h ≤ 1000000 then (if findM l h < 0 then 4 else 0) else 2) else 1
def wideR (l : List S55) (h : Int) : Int × Int := wideF (partM l h) ((rd_T55 l 0).f1, (rd_T55 l 0).f2)
def commR (l : List S55) (h : Int) : Int × Int := commF (partM l h) ((rd_T55 l 0).f1, (rd_T55 l 0).f2)
def wideM (l : List S55) (h : Int) : Int × Int × Int := if codeM l h = 0 then ((wideR l h).1, (wideR l h).2, 0) else (0, 0, codeM l h)
def commM (l : List S55) (h : Int) : Int × Int × Int := if codeM l h = 0 then (if (commR l h).1 > (commR l h).2 then (0, 0, 5) else ((commR l h).1, (commR l h).2, 0)) else (0, 0, codeM l h)
def calmL (R : List S55) (m : Int) : Bool := decide (∀ c ∈ R, -m ≤ c.f1 ∧ c.f2 ≤ m)
def calmH (h m : Int) : Int := if 0 ≤ m ∧ m ≤ 50000 then h else -1
def calmM (l : List S55) (h m : Int) : Bool × Int := if codeM l (calmH h m) = 0 then (calmL (partM l h) m, 0) else (false, codeM l (calmH h m))
theorem codeM_zero {l : List S55} {h : Int} (e : codeM l h = 0) : profB l = true ∧ (0 ≤ h ∧ h ≤ 1000000) ∧ 0 ≤ findM l h := by
  unfold codeM at e
  split at e
  · split at e
    · split at e
      · omega
      · refine ⟨by assumption, by assumption, by omega⟩
    · omega
  · omega
theorem profB_len {l : List S55} (h : profB l = true) : 1 ≤ l.length ∧ l.length ≤ 6 := by
  unfold profB at h
  simp only [Bool.and_eq_true, decide_eq_true_eq] at h
  exact h.1
theorem spec_l05Code_ev' (l : List S55) (hl : l.length ≤ 1000000000) (h : Int) : Ev (fun k => spec_l05Code.f k l h) (codeM l h) := spec_l05Code_ev l hl h
theorem part_drop {l R : List S55} {t : Int} {i : Nat} {c : S55} (h : (l.take (t + 1).toNat).drop i = c :: R) : (i : Int) ≤ t ∧ i < l.length ∧ rd_T55 l (i : Int) = c ∧ (l.take (t + 1).toNat).drop (i + 1) = R := by
  obtain ⟨h1, h2, h3⟩ := drop_cons h
  rw [List.length_take] at h1
  rw [List.getElem?_take, if_pos (by omega)] at h2
  refine ⟨by omega, by omega, ?_, h3⟩
  unfold rd_T55
  rw [Int.toNat_natCast, List.getD_eq_getElem?_getD, h2]; rfl
theorem spec_l05Widest_l0 (l : List S55) (hl : l.length ≤ 1000000000) (h : Int) (h1 : findM l h < l.length) : ∀ (R : List S55) (i : Nat) (a b : Int), (partM l h).drop i = R → Ev (fun k => spec_l05Widest.l0 k l h a b i) (wideF R (a, b)) := by
  intro R
  induction R with
  | nil =>
    intro i a b e
    have := drop_nil e
    unfold partM at this
    rw [List.length_take] at this
    exact Ev.step (fun k => spec_l05Widest.l0.eq_2 ..) ((spec_l05Find_ev l (by omega) h).bind (ev_neg (by omega) (Ev.now _)))
  | cons c R ih =>
    intro i a b e
    obtain ⟨g1, g2, g3, g4⟩ := part_drop e
    refine Ev.step (fun k => spec_l05Widest.l0.eq_2 ..) ((spec_l05Find_ev l (by omega) h).bind (ev_pos (by omega) (ev_pos (by omega) (ev_pos (by omega) ?_))))
    rw [g3, w64 (n := (i : Int) + 1) (by omega) (by omega)]
    exact ih (i + 1) _ _ g4
theorem spec_l05Widest_ev (l : List S55) (hl : l.length ≤ 1000000000) (h : Int) (h0 : 1 ≤ l.length) (h1 : findM l h < l.length) : Ev (fun k => spec_l05Widest.f k l h) (wideR l h) :=
  ev_pos (by omega) (spec_l05Widest_l0 l hl h h1 _ 0 _ _ rfl)
theorem spec_WidestWind_ev (l : List S55) (hl : l.length ≤ 1000000000) (h : Int) : Ev (fun k => spec_WidestWind.f k l h) (wideM l h) := by
  refine (spec_l05Code_ev' l hl h).bind ?_
  unfold wideM
  by_cases e : codeM l h = 0
  · obtain ⟨a, b, c⟩ := codeM_zero e
    have := profB_len a
    exact ev_pos e ((spec_l05Widest_ev l hl h (by omega) (findM_lt l h)).bind (ev_ret (by rw [if_pos e])))
  · exact ev_neg e (ev_ret (by rw [if_neg e]))
theorem spec_CommonWind_l0 (l : List S55) (hl : l.length ≤ 1000000000) (h : Int) (h1 : findM l h < l.length) : ∀ (R : List S55) (i : Nat) (a b : Int), (partM l h).drop i = R → Ev (fun k => spec_CommonWind.l0 k l h a b i) (if (commF R (a, b)).1 > (commF R (a, b)).2 then (0, 0, 5) else ((commF R (a, b)).1, (commF R (a, b)).2, 0)) := by
  intro R
  induction R with
  | nil =>
    intro i a b e
    have := drop_nil e
    unfold partM at this
    rw [List.length_take] at this
    refine Ev.step (fun k => spec_CommonWind.l0.eq_2 ..) ((spec_l05Find_ev l (by omega) h).bind (ev_neg (by omega) ?_))
    unfold commF
    by_cases g : a > b
    · exact ev_pos g (ev_ret (by rw [if_pos g]))
    · exact ev_neg g (ev_ret (by rw [if_neg g]))
  | cons c R ih =>
    intro i a b e
    obtain ⟨g1, g2, g3, g4⟩ := part_drop e
    refine Ev.step (fun k => spec_CommonWind.l0.eq_2 ..) ((spec_l05Find_ev l (by omega) h).bind (ev_pos (by omega) (ev_pos (by omega) (ev_pos (by omega) ?_))))
    rw [g3, w64 (n := (i : Int) + 1) (by omega) (by omega)]
    exact ih (i + 1) _ _ g4
theorem spec_CommonWind_ev (l : List S55) (hl : l.length ≤ 1000000000) (h : Int) : Ev (fun k => spec_CommonWind.f k l h) (commM l h) := by
  refine (spec_l05Code_ev' l hl h).bind ?_
  unfold commM
  by_cases e : codeM l h = 0
  · obtain ⟨a, b, c⟩ := codeM_zero e
    have := profB_len a
    refine ev_pos e (ev_pos (by omega) ?_)
    rw [if_pos e]
    exact spec_CommonWind_l0 l hl h (findM_lt l h) _ 0 _ _ rfl
  · exact ev_neg e (ev_ret (by rw [if_neg e]))
theorem wideF_calm (m : Int) : ∀ (R : List S55) (a b : Int), ((wideF R (a, b)).1 ≥ -m ∧ (wideF R (a, b)).2 ≤ m) ↔ ((a ≥ -m ∧ b ≤ m) ∧ ∀ c ∈ R, -m ≤ c.f1 ∧ c.f2 ≤ m)
  | [], a, b => by simp [wideF]
  | c :: R, a, b => by
    unfold wideF
    rw [wideF_calm m R]
    simp only [List.mem_cons, forall_eq_or_imp]
    unfold mn mx
    constructor
    · rintro ⟨⟨h1, h2⟩, h3⟩
      refine ⟨⟨?_, ?_⟩, ⟨?_, ?_⟩, h3⟩ <;> revert h1 h2 <;> (try dsimp only) <;> split <;> split <;> intros <;> omega
    · rintro ⟨⟨h1, h2⟩, ⟨h3, h4⟩, h5⟩
      refine ⟨⟨?_, ?_⟩, h5⟩ <;> (try dsimp only) <;> split <;> omega
theorem part_head {l : List S55} {h : Int} (h0 : 0 ≤ findM l h) (h1 : 1 ≤ l.length) : rd_T55 l 0 ∈ partM l h := by
  cases l with
  | nil => simp at h1
  | cons c R =>
    unfold partM
    obtain ⟨n, hn⟩ : ∃ n, (findM (c :: R) h + 1).toNat = n + 1 := ⟨(findM (c :: R) h).toNat, by omega⟩
    rw [hn]
    simp [rd_T55]
theorem spec_IsCalm_ev (l : List S55) (hl : l.length ≤ 1000000000) (h m : Int) : Ev (fun k => spec_IsCalm.f k l h m) (calmM l h m) := by
  have key : ∀ h' : Int, h' = calmH h m → Ev (fun k => spec_IsCalm.j0 k l h' m) (calmM l h m) := by
    intro h' e
    refine Ev.step (fun k => spec_IsCalm.j0.eq_2 ..) ((spec_l05Code_ev' l hl h').bind ?_)
    unfold calmM
    rw [← e]
    by_cases g : codeM l h' = 0
    · obtain ⟨a, b, c⟩ := codeM_zero g
      have := profB_len a
      have hm : 0 ≤ m ∧ m ≤ 50000 := by
        unfold calmH at e
        split at e
        · assumption
        · omega
      have he : h' = h := by rw [e]; unfold calmH; rw [if_pos hm]
      refine ev_pos g ((spec_l05Widest_ev l hl h' (by omega) (findM_lt l h')).bind ?_)
      rw [if_pos g, he, w64 (n := -m) (by omega) (by omega)]
      have w := wideF_calm m (partM l h) (rd_T55 l 0).f1 (rd_T55 l 0).f2
      have ph := part_head (l := l) (h := h) (by rw [← he]; exact c) (by omega)
      have q : calmL (partM l h) m = decide ((wideR l h).1 ≥ -m ∧ (wideR l h).2 ≤ m) := by
        unfold calmL wideR
        refine decide_eq_decide.2 ?_
        rw [w]
        constructor
        · intro z; exact ⟨z _ ph, z⟩
        · intro z; exact z.2
      rw [q]
      by_cases u : (wideR l h).1 ≥ -m
      · exact ev_pos u (ev_ret (by simp [u]))
      · exact ev_neg u (ev_ret (by simp [u]))
    · exact ev_neg g (ev_ret (by rw [if_neg g]))
  refine ev_bind0 (in_eq ..) ?_
  by_cases hm : 0 ≤ m ∧ m ≤ 50000
  · exact ev_pos (by simpa using hm) (key h (by unfold calmH; rw [if_pos hm]))
  · exact ev_neg (by simpa using hm) (key (-1) (by unfold calmH; rw [if_neg hm]))

/-! ### what the program answers, over the print's own pure functions -/
theorem impl_layersTo_j0 (l : List S55) (hl : l.length ≤ 1000000000) (h : Int) : Ev (fun k => impl_layersTo.j0 k l h false) (if findM l h < 0 then ([], 4) else (partM l h, 0)) := by
  have hlt := findM_lt l h
  refine Ev.step (fun k => impl_layersTo.j0.eq_2 ..) (ev_neg (by decide) ((impl_layerOf_ev l (by omega) h).bind ?_))
  by_cases a : findM l h < 0
  · exact ev_pos a (ev_ret (by rw [if_pos a]))
  · refine ev_neg a ?_
    rw [if_neg a, w64 (n := findM l h + 1) (by omega) (by omega)]
    refine ev_bind0 rfl (ev_pos (by omega) (ev_pos (by omega) (ev_bind0 rfl (ev_pos ?_ (ev_ret ?_)))))
    · simp only [List.length_nil, List.length_take]; omega
    · rw [List.nil_append]; rfl
theorem impl_layersTo_ev (l : List S55) (hl : l.length ≤ 1000000000) (h : Int) : Ev (fun k => impl_layersTo.f k l h true) (if codeM l h = 0 then partM l h else [], codeM l h) := by
  refine (impl_IsProfile_ev l (by omega)).bind ?_
  unfold codeM
  by_cases a : profB l = true
  · refine ev_pos a (ev_bind0 (within_f h) ?_)
    simp only [a, if_true]
    by_cases b : 0 ≤ h ∧ h ≤ 1000000
    · refine ev_pos (by simpa using b) ?_
      simp only [b, and_self, if_true, Bool.not_true]
      have e := impl_layersTo_j0 l hl h
      by_cases c : findM l h < 0
      · simp only [c, if_true] at e ⊢; exact e
      · simp only [c, if_false, if_true] at e ⊢; exact e
    · refine ev_neg (by simpa using b) (Ev.step (fun k => impl_layersTo.j0.eq_2 ..) (ev_pos rfl (ev_ret ?_)))
      simp [b]
  · exact ev_neg a (ev_ret (by simp [a]))
theorem impl_layersTo_off (l : List S55) (hl : l.length ≤ 1000000000) (h : Int) : Ev (fun k => impl_layersTo.f k l h false) ([], if profB l = true then 2 else 1) := by
  refine (impl_IsProfile_ev l (by omega)).bind ?_
  by_cases a : profB l = true
  · refine ev_pos a (ev_bind0 (within_f h) ?_)
    have e : Ev (fun k => impl_layersTo.j0 k l h true) (([] : List S55), 2) := Ev.step (fun k => impl_layersTo.j0.eq_2 ..) (ev_pos rfl (Ev.now _))
    rw [if_pos a]
    by_cases b : 0 ≤ h ∧ h ≤ 1000000
    · exact ev_pos (by simpa using b) e
    · exact ev_neg (by simpa using b) e
  · exact ev_neg a (ev_ret (by rw [if_neg a]))
theorem part_len {l : List S55} {h : Int} (e : codeM l h = 0) : 1 ≤ (partM l h).length ∧ (partM l h).length ≤ l.length ∧ rd_T55 (partM l h) 0 = rd_T55 l 0 ∧ ((partM l h).length : Int) = findM l h + 1 := by
  obtain ⟨a, b, c⟩ := codeM_zero e
  have hlt := findM_lt l h
  have hl := profB_len a
  unfold partM
  refine ⟨by rw [List.length_take]; omega, by rw [List.length_take]; omega, ?_, by rw [List.length_take]; omega⟩
  cases l with
  | nil => simp at hl
  | cons x R =>
    obtain ⟨n, hn⟩ : ∃ n, (findM (x :: R) h + 1).toNat = n + 1 := ⟨(findM (x :: R) h).toNat, by omega⟩
    rw [hn]; rfl
theorem windM_eq (l : List S55) (h : Int) : windM l h = if codeM l h = 0 then ((rd_T55 l (findM l h)).f1, (rd_T55 l (findM l h)).f2, 0) else (0, 0, codeM l h) := by
  unfold windM codeM
  by_cases a : profB l = true
  · by_cases b : 0 ≤ h ∧ h ≤ 1000000
    · by_cases c : findM l h < 0
      · simp [a, b, c]
      · simp [a, b, c]
    · simp [a, b]
  · simp [a]
theorem impl_WindAt_ev (l : List S55) (hl : l.length ≤ 1000000000) (h : Int) : Ev (fun k => impl_WindAt.f k l h) (windM l h) := by
  refine (impl_layersTo_ev l hl h).bind ?_
  rw [windM_eq]
  by_cases e : codeM l h = 0
  · obtain ⟨p1, p2, p3, p4⟩ := part_len e
    obtain ⟨a, b, c⟩ := codeM_zero e
    simp only [e, if_true]
    rw [w64 (n := ((partM l h).length : Int) - 1) (by omega) (by omega)]
    refine ev_pos (by omega) (ev_pos (by omega) (ev_ret ?_))
    have := take_last l c (findM_lt l h)
    unfold partM
    rw [this]
  · simp only [e, if_false]
    exact Ev.now _
theorem impl_WidestWind_l0 (M : List S55) (hl : M.length ≤ 1000000000) : ∀ (R : List S55) (i : Nat) (a b : Int), M.drop i = R → Ev (fun k => impl_WidestWind.l0 k a b M (M.length : Int) i) ((wideF R (a, b)).1, (wideF R (a, b)).2, 0) := by
  intro R
  induction R with
  | nil =>
    intro i a b e
    have := drop_nil e
    exact Ev.step (fun k => impl_WidestWind.l0.eq_2 ..) (ev_neg (by omega) (Ev.now _))
  | cons c R ih =>
    intro i a b e
    obtain ⟨h1, h2, h3⟩ := rdOf_drop (d := z55) e
    have h2' : rd_T55 M (i : Int) = c := h2
    refine Ev.step (fun k => impl_WidestWind.l0.eq_2 ..) (ev_pos (by omega) (ev_pos (by omega) (ev_pos (by omega) ?_)))
    rw [h2', w64 (n := (i : Int) + 1) (by omega) (by omega)]
    exact ih (i + 1) _ _ h3
theorem impl_WidestWind_ev (l : List S55) (hl : l.length ≤ 1000000000) (h : Int) : Ev (fun k => impl_WidestWind.f k l h) (wideM l h) := by
  refine (impl_layersTo_ev l hl h).bind ?_
  unfold wideM
  by_cases e : codeM l h = 0
  · obtain ⟨p1, p2, p3, p4⟩ := part_len e
    simp only [e, if_true]
    refine ev_pos (by omega) ?_
    rw [p3]
    exact impl_WidestWind_l0 (partM l h) (by omega) (partM l h) 0 _ _ rfl
  · simp only [e, if_false]
    exact Ev.now _
theorem impl_CommonWind_l0 (M : List S55) (hl : M.length ≤ 1000000000) : ∀ (R : List S55) (i : Nat) (a b : Int), M.drop i = R → Ev (fun k => impl_CommonWind.l0 k a b M (M.length : Int) i) (if (commF R (a, b)).1 > (commF R (a, b)).2 then (0, 0, 5) else ((commF R (a, b)).1, (commF R (a, b)).2, 0)) := by
  intro R
  induction R with
  | nil =>
    intro i a b e
    have := drop_nil e
    refine Ev.step (fun k => impl_CommonWind.l0.eq_2 ..) (ev_neg (by omega) ?_)
    unfold commF
    by_cases g : a > b
    · exact ev_pos g (ev_ret (by rw [if_pos g]))
    · exact ev_neg g (ev_ret (by rw [if_neg g]))
  | cons c R ih =>
    intro i a b e
    obtain ⟨h1, h2, h3⟩ := rdOf_drop (d := z55) e
    have h2' : rd_T55 M (i : Int) = c := h2
    refine Ev.step (fun k => impl_CommonWind.l0.eq_2 ..) (ev_pos (by omega) (ev_pos (by omega) (ev_pos (by omega) ?_)))
    rw [h2', w64 (n := (i : Int) + 1) (by omega) (by omega)]
    exact ih (i + 1) _ _ h3
theorem impl_CommonWind_ev (l : List S55) (hl : l.length ≤ 1000000000) (h : Int) : Ev (fun k => impl_CommonWind.f k l h) (commM l h) := by
  refine (impl_layersTo_ev l hl h).bind ?_
  unfold commM
  by_cases e : codeM l h = 0
  · obtain ⟨p1, p2, p3, p4⟩ := part_len e
    simp only [e, if_true]
    refine ev_pos (by omega) ?_
    rw [p3]
    exact impl_CommonWind_l0 (partM l h) (by omega) (partM l h) 0 _ _ rfl
  · simp only [e, if_false]
    exact Ev.now _
theorem impl_IsCalm_l0 (M : List S55) (hl : M.length ≤ 1000000000) (m : Int) (h0 : 0 ≤ m) (h1 : m ≤ 50000) : ∀ (R : List S55) (i : Nat), M.drop i = R → Ev (fun k => impl_IsCalm.l0 k m M (M.length : Int) i) (calmL R m, 0) := by
  intro R
  induction R with
  | nil =>
    intro i e
    have := drop_nil e
    exact Ev.step (fun k => impl_IsCalm.l0.eq_2 ..) (ev_neg (by omega) (ev_ret (by simp [calmL])))
  | cons c R ih =>
    intro i e
    obtain ⟨g1, g2, g3⟩ := rdOf_drop (d := z55) e
    have g2' : rd_T55 M (i : Int) = c := g2
    refine Ev.step (fun k => impl_IsCalm.l0.eq_2 ..) (ev_pos (by omega) (ev_pos (by omega) (ev_pos (by omega) ?_)))
    rw [g2', w64 (n := (i : Int) + 1) (by omega) (by omega), w64 (n := -m) (by omega) (by omega)]
    by_cases a : c.f1 < -m
    · refine ev_pos a (ev_ret ?_)
      have : calmL (c :: R) m = false := decide_eq_false (fun z => by have := (z c (by simp)).1; omega)
      rw [this]
    · refine ev_neg a ?_
      by_cases b : c.f2 > m
      · refine ev_pos b (ev_ret ?_)
        have : calmL (c :: R) m = false := decide_eq_false (fun z => by have := (z c (by simp)).2; omega)
        rw [this]
      · refine ev_neg b ?_
        have e2 : calmL (c :: R) m = calmL R m := by
          unfold calmL
          refine decide_eq_decide.2 ?_
          simp only [List.mem_cons, forall_eq_or_imp]
          exact ⟨fun z => z.2, fun z => ⟨by omega, z⟩⟩
        rw [e2]; exact ih (i + 1) g3
theorem impl_IsCalm_ev (l : List S55) (hl : l.length ≤ 1000000000) (h m : Int) : Ev (fun k => impl_IsCalm.f k l h m) (calmM l h m) := by
  have hw : impl_within.f m 0 50000 = some (decide (0 ≤ m ∧ m ≤ 50000)) := within_eq ..
  refine ev_bind0 hw ?_
  unfold calmM calmH
  by_cases b : 0 ≤ m ∧ m ≤ 50000
  · rw [decide_eq_true b, if_pos b]
    refine (impl_layersTo_ev l hl h).bind ?_
    by_cases e : codeM l h = 0
    · obtain ⟨p1, p2, p3, p4⟩ := part_len e
      simp only [e, if_true]
      exact impl_IsCalm_l0 (partM l h) (by omega) m b.1 b.2 (partM l h) 0 rfl
    · simp only [e, if_false]
      exact Ev.now _
  · rw [decide_eq_false b, if_neg b]
    have ec : codeM l (-1) = if profB l = true then 2 else 1 := by
      unfold codeM; rw [if_neg (show ¬ ((0 : Int) ≤ -1 ∧ (-1 : Int) ≤ 1000000) by omega)]
    refine (impl_layersTo_off l hl h).bind ?_
    rw [ec]
    by_cases a : profB l = true
    · simp only [a, if_true]
      exact ev_neg (by decide) (ev_ret rfl)
    · simp only [a, if_false]
      exact ev_neg (by decide) (ev_ret rfl)

/-! ### numbers that follow from a code -/
def Code (c : List Int) : Prop := (∀ x ∈ c, 0 ≤ x ∧ x ≤ 255) ∧ c.length ≤ 5000
def Src (c : List Int) (a s : Int) : Prop := Code c ∧ (0 ≤ a ∧ a ≤ c.length) ∧ 0 ≤ s ∧ s < 2147483647
theorem rd_code {c : List Int} (h : Code c) {i : Int} (h0 : 0 ≤ i) (h1 : i < c.length) : 0 ≤ rd c i ∧ rd c i ≤ 255 := by
  unfold rd
  have hi : i.toNat < c.length := by omega
  rw [List.getD_eq_getElem?_getD, List.getElem?_eq_getElem hi]
  exact h.1 _ (List.getElem_mem hi)
theorem tmod_nn {a b : Int} (ha : 0 ≤ a) : Int.tmod a b = a % b := Int.tmod_eq_emod_of_nonneg ha
theorem tmod_in {a b : Int} (ha : 0 ≤ a) (hb : 0 < b) : 0 ≤ Int.tmod a b ∧ Int.tmod a b < b := by
  rw [tmod_nn ha]
  exact ⟨Int.emod_nonneg a (by omega), Int.emod_lt_of_pos a hb⟩
theorem l01Next_some {c : List Int} {a s n : Int} (h : Src c a s) (hn : n ≤ 4611686018427387904) : ∃ x a' s', spec_l01Next.f c a s n = some (x, a', s') ∧ Src c a' s' ∧ 0 ≤ x ∧ (1 ≤ n → x < n) ∧ (n ≤ 1 → x = 0) := by
  obtain ⟨hc, ⟨a0, a1⟩, s0, s1⟩ := h
  have hl := hc.2
  unfold spec_l01Next.f
  by_cases g : n ≤ 1
  · rw [if_pos g]
    exact ⟨0, a, s, rfl, ⟨hc, ⟨a0, a1⟩, s0, s1⟩, by omega, by omega, by omega⟩
  · rw [if_neg g]
    have e1 : wrap64 ((wrap64 (s * 48271)) + 29) = s * 48271 + 29 := by
      rw [w64 (n := s * 48271) (by omega) (by omega), w64 (by omega) (by omega)]
    have e2 := tmod_in (a := s * 48271 + 29) (b := 2147483647) (by omega) (by omega)
    rw [e1]
    generalize Int.tmod (s * 48271 + 29) 2147483647 = s' at *
    have e3 : wrap64 (Int.tdiv s' 31) = s' / 31 := by rw [Int.tdiv_eq_ediv_of_nonneg (by omega), w64 (by omega) (by omega)]
    rw [e3]
    by_cases g1 : a < (c.length : Int)
    · have hr := rd_code hc a0 g1
      rw [if_pos g1, if_pos a0, w64 (n := a + 1) (by omega) (by omega), w64 (n := a + 1 - 1) (by omega) (by omega), show a + 1 - 1 = a by omega, w64 (n := rd c a) (by omega) (by omega), w64 (n := s' / 31 + rd c a) (by omega) (by omega)]
      have t1 := tmod_in (a := rd c a) (b := n) (by omega) (by omega)
      have t2 := tmod_in (a := s' / 31 + rd c a) (b := n) (by omega) (by omega)
      have fin : Src c (a + 1) s' := ⟨hc, ⟨by omega, by omega⟩, e2⟩
      by_cases g2 : n ≤ 256
      · rw [if_pos g2]
        by_cases g3 : Int.tmod (a + 1) 2 = 0
        · rw [if_pos g3, if_pos a0, if_pos g1, if_neg (by omega)]
          exact ⟨_, _, _, rfl, fin, t1.1, fun _ => t1.2, by omega⟩
        · rw [if_neg g3, if_neg (by omega)]
          exact ⟨_, _, _, rfl, fin, t2.1, fun _ => t2.2, by omega⟩
      · rw [if_neg g2, if_neg (by omega)]
        exact ⟨_, _, _, rfl, fin, t2.1, fun _ => t2.2, by omega⟩
    · have t2 := tmod_in (a := s' / 31) (b := n) (by omega) (by omega)
      rw [if_neg g1, if_neg (by omega)]
      exact ⟨_, _, _, rfl, ⟨hc, ⟨a0, a1⟩, e2⟩, t2.1, fun _ => t2.2, by omega⟩
theorem l01Pick_some {c : List Int} {a s : Int} (h : Src c a s) {l : List Int} (hl : 1 ≤ l.length) (hl' : l.length ≤ 1000) : ∃ x a' s', spec_l01Pick.f c a s l = some (x, a', s') ∧ Src c a' s' ∧ x ∈ l := by
  obtain ⟨x, a', s', e, h', x0, x1, _⟩ := l01Next_some h (n := (l.length : Int)) (by omega)
  have x2 := x1 (by omega)
  unfold spec_l01Pick.f
  rw [e, Option.bind_some, if_pos x0, if_pos x2]
  refine ⟨_, _, _, rfl, h', ?_⟩
  unfold rd
  have hi : x.toNat < l.length := by omega
  rw [List.getD_eq_getElem?_getD, List.getElem?_eq_getElem hi]
  exact List.getElem_mem hi
theorem l01From_l0 {c : List Int} (hc : Code c) : ∀ (d : Nat) (i : Int) (s : Int), 64 - i = d → 0 ≤ i → 0 ≤ s → s < 2147483647 → ∃ s', Ev (fun k => spec_l01From.l0 k c i c 0 s) (c, 0, s') ∧ Src c 0 s' := by
  intro d
  have hl := hc.2
  induction d with
  | zero =>
    intro i s hd h0 s0 s1
    refine ⟨s, Ev.step (fun k => spec_l01From.l0.eq_2 ..) ?_, hc, ⟨by omega, by omega⟩, s0, s1⟩
    by_cases g : i < (c.length : Int)
    · exact ev_pos g (ev_neg (by omega) (Ev.now _))
    · exact ev_neg g (Ev.now _)
  | succ d ih =>
    intro i s hd h0 s0 s1
    by_cases g : i < (c.length : Int)
    · have hr := rd_code hc h0 g
      have e1 : wrap64 ((wrap64 (s * 83)) + (wrap64 (rd c i))) = s * 83 + rd c i := by
        rw [w64 (n := s * 83) (by omega) (by omega), w64 (n := rd c i) (by omega) (by omega), w64 (by omega) (by omega)]
      have e2 := tmod_in (a := s * 83 + rd c i) (b := 2147483647) (by omega) (by omega)
      obtain ⟨s', hs, h⟩ := ih (i + 1) (Int.tmod (s * 83 + rd c i) 2147483647) (by omega) (by omega) e2.1 e2.2
      refine ⟨s', Ev.step (fun k => spec_l01From.l0.eq_2 ..) (ev_pos g (ev_pos (by omega) (ev_pos h0 ?_))), h⟩
      rw [e1, w64 (by omega) (by omega)]
      exact hs
    · exact ⟨s, Ev.step (fun k => spec_l01From.l0.eq_2 ..) (ev_neg g (Ev.now _)), hc, ⟨by omega, by omega⟩, s0, s1⟩
theorem l01From_ev {c : List Int} (hc : Code c) : ∃ s, Ev (fun k => spec_l01From.f k c) (c, 0, s) ∧ Src c 0 s :=
  l01From_l0 hc 64 0 61043 (by omega) (by omega) (by omega) (by omega)
/-! ### dice -/
def Dice (c : List Int) (i h : Int) : Prop := Code c ∧ (0 ≤ i ∧ i ≤ c.length) ∧ 0 ≤ h ∧ h ≤ 18446744073709551615
theorem u64w (n : Int) : 0 ≤ IntKind.u64.wrap n ∧ IntKind.u64.wrap n ≤ 18446744073709551615 := by
  have e : IntKind.u64.wrap n = n % 18446744073709551616 := by rfl
  omega
theorem roll_l0 {c : List Int} (hc : Code c) : ∀ (d : Nat) (i : Int) (h : Int), (c.length : Int) - i = d → 0 ≤ i → 0 ≤ h → h ≤ 18446744073709551615 → ∃ h', Ev (fun k => laws_roll.l0 k c i c 0 h) (c, 0, h') ∧ Dice c 0 h' := by
  intro d
  have hl := hc.2
  induction d with
  | zero =>
    intro i h hd h0 s0 s1
    exact ⟨h, Ev.step (fun k => laws_roll.l0.eq_2 ..) (ev_neg (by omega) (Ev.now _)), hc, ⟨by omega, by omega⟩, s0, s1⟩
  | succ d ih =>
    intro i h hd h0 s0 s1
    have e := u64w ((IntKind.u64.wrap ((IntKind.u64.wrap (h * 1099511628211)) + (IntKind.u64.wrap (rd c i)))) + 3)
    obtain ⟨h', hs, k⟩ := ih (i + 1) (IntKind.u64.wrap ((IntKind.u64.wrap ((IntKind.u64.wrap (h * 1099511628211)) + (IntKind.u64.wrap (rd c i)))) + 3)) (by omega) (by omega) e.1 e.2
    refine ⟨h', Ev.step (fun k => laws_roll.l0.eq_2 ..) (ev_pos (by omega) (ev_pos h0 ?_)), k⟩
    rw [w64 (by omega) (by omega)]
    exact hs
theorem roll_ev {c : List Int} (hc : Code c) (n : Int) : ∃ h, Ev (fun k => laws_roll.f k c n) (c, 0, h) ∧ Dice c 0 h := by
  have e := u64w ((IntKind.u64.wrap (n * 7919)) + (IntKind.u64.wrap ((c.length : Int))))
  exact roll_l0 hc c.length 0 _ (by omega) (by omega) e.1 e.2
theorem below_some {c : List Int} {i h n : Int} (hd : Dice c i h) (hn : 1 ≤ n) : ∃ x i' h', laws_dice_below.f c i h n = some (x, i', h') ∧ Dice c i' h' ∧ 0 ≤ x ∧ x < n := by
  obtain ⟨hc, ⟨i0, i1⟩, h0, h1⟩ := hd
  have hl := hc.2
  unfold laws_dice_below.f
  have e := u64w ((IntKind.u64.wrap (h * 6364136223846793005)) + 1442695040888963407)
  generalize IntKind.u64.wrap ((IntKind.u64.wrap (h * 6364136223846793005)) + 1442695040888963407) = g at *
  have p32 : (2 : Int) ^ 32 = 4294967296 := by decide
  have wr : ∀ z : Int, 0 ≤ z → z < 2 ^ 32 → IntKind.u64.wrap z = z := fun z z0 z1 => by
    have e : IntKind.u64.wrap z = z % 18446744073709551616 := rfl
    omega
  have hg : g / 8589934592 < 2 ^ 32 := by omega
  have m : Go.bits .and .u64 (g / 8589934592) 16777215 = g / 8589934592 % 16777216 := bits_mask .u64 32 (by decide) wr 24 (by decide) (g / 8589934592) (by omega) hg
  rw [m]
  by_cases a : i < (c.length : Int)
  · have hr := rd_code hc i0 a
    have t := tmod_in (a := g / 8589934592 % 16777216 + rd c i) (b := n) (by omega) (by omega)
    rw [if_pos a, if_pos i0, if_neg (by omega), w64 (n := g / 8589934592 % 16777216) (by omega) (by omega), w64 (n := rd c i) (by omega) (by omega), w64 (n := g / 8589934592 % 16777216 + rd c i) (by omega) (by omega), w64 (n := i + 1) (by omega) (by omega)]
    exact ⟨_, _, _, rfl, ⟨hc, ⟨by omega, by omega⟩, e⟩, t.1, t.2⟩
  · have t := tmod_in (a := g / 8589934592 % 16777216) (b := n) (by omega) (by omega)
    rw [if_neg a, if_neg (by omega), w64 (n := g / 8589934592 % 16777216) (by omega) (by omega)]
    exact ⟨_, _, _, rfl, ⟨hc, ⟨i0, i1⟩, e⟩, t.1, t.2⟩
theorem big_false {c : List Int} (h : ¬ (c.length : Int) > 4096) : laws_big.f c = some false := by unfold laws_big.f; simp; omega
theorem big_true {c : List Int} (h : (c.length : Int) > 4096) : laws_big.f c = some true := by unfold laws_big.f; simp; omega
theorem code_of {c : List Int} (h : ∀ x ∈ c, (Lit.int .u8 x).wf = true) (hl : ¬ (c.length : Int) > 4096) : Code c := ⟨fun x hx => bd8 (h x hx), by omega⟩

/-! ### drawn profiles -/
theorem l05Good_l0 {c : List Int} : ∀ (d : Nat) (out : List S55) (x a s : Int), Src c a s → out.length + d ≤ 10 → ∃ l a' s', Ev (fun k => spec_l05Good.l0 k out x (d : Int) c a s) (l, a', s') ∧ Src c a' s' ∧ l.length = out.length + d := by
  intro d
  induction d with
  | zero =>
    intro out x a s h ho
    exact ⟨_, _, _, Ev.step (fun k => spec_l05Good.l0.eq_2 ..) (ev_neg (by omega) (Ev.now _)), h, rfl⟩
  | succ d ih =>
    intro out x a s h ho
    obtain ⟨x0, a0, s0, e0, h0, _⟩ := l01Next_some h (n := 100000) (by omega)
    obtain ⟨x1, a1, s1, e1, h1, _⟩ := l01Next_some h0 (n := 12001) (by omega)
    obtain ⟨x2, a2, s2, e2, h2, _⟩ := l01Next_some h1 (n := 6000) (by omega)
    obtain ⟨l, a', s', e, h', hl⟩ := ih (out ++ [(⟨wrap64 ((wrap64 (x + 1)) + x0), wrap64 (x1 - 6000), wrap64 ((wrap64 (x1 - 6000)) + x2)⟩ : S55)]) (wrap64 ((wrap64 (x + 1)) + x0)) a2 s2 h2 (by simp; omega)
    refine ⟨l, a', s', Ev.step (fun k => spec_l05Good.l0.eq_2 ..) (ev_pos (by omega) (ev_bind0 e0 (ev_bind0 e1 (ev_bind0 e2 (ev_pos (by omega) ?_))))), h', by rw [hl]; simp; omega⟩
    rw [w64 (n := ((d + 1 : Nat) : Int) - 1) (by omega) (by omega), show ((d + 1 : Nat) : Int) - 1 = (d : Int) by omega]
    exact e
theorem l05Good_ev {c : List Int} {a s : Int} (h : Src c a s) : ∃ l a' s', Ev (fun k => spec_l05Good.f k c a s) (l, a', s') ∧ Src c a' s' ∧ 1 ≤ l.length ∧ l.length ≤ 4 := by
  obtain ⟨x0, a0, s0, e0, h0, b0, c0, _⟩ := l01Next_some h (n := 4) (by omega)
  have c0 := c0 (by omega)
  obtain ⟨l, a', s', e, h', hl⟩ := l05Good_l0 (1 + x0).toNat [] 0 a0 s0 h0 (by simp; omega)
  refine ⟨l, a', s', ev_bind0 e0 ?_, h', by rw [hl]; simp; omega, by rw [hl]; simp; omega⟩
  dsimp only
  rw [w64 (n := 1 + x0) (by omega) (by omega), show 1 + x0 = (((1 + x0).toNat : Nat) : Int) by omega]
  exact e
theorem l05Draw_l0 {c : List Int} : ∀ (d : Nat) (out : List S55) (x a s : Int), Src c a s → out.length + d = 8 → ∃ l a' s', Ev (fun k => spec_l05Draw.l0 k out x c a s) (l, a', s') ∧ Src c a' s' ∧ l.length ≤ 8 := by
  intro d
  induction d with
  | zero =>
    intro out x a s h ho
    obtain ⟨x0, a0, s0, e0, h0, b0, c0, _⟩ := l01Next_some h (n := 2) (by omega)
    have c0 := c0 (by omega)
    refine ⟨_, _, _, Ev.step (fun k => spec_l05Draw.l0.eq_2 ..) (ev_bind0 e0 (ev_neg ?_ (Ev.now _))), h0, by omega⟩
    dsimp only
    rw [w64 (n := 6 + x0) (by omega) (by omega)]; omega
  | succ d ih =>
    intro out x a s h ho
    obtain ⟨x0, a0, s0, e0, h0, b0, c0, _⟩ := l01Next_some h (n := 2) (by omega)
    have c0 := c0 (by omega)
    by_cases g : (out.length : Int) < 6 + x0
    · obtain ⟨l, a', s', e, h', hl⟩ := ih (out ++ [(⟨x, (-5), 5⟩ : S55)]) (wrap64 (x + 1)) a0 s0 h0 (by simp; omega)
      refine ⟨l, a', s', Ev.step (fun k => spec_l05Draw.l0.eq_2 ..) (ev_bind0 e0 (ev_pos ?_ (ev_pos (by omega) e))), h', hl⟩
      dsimp only
      rw [w64 (n := 6 + x0) (by omega) (by omega)]; omega
    · refine ⟨_, _, _, Ev.step (fun k => spec_l05Draw.l0.eq_2 ..) (ev_bind0 e0 (ev_neg ?_ (Ev.now _))), h0, by omega⟩
      dsimp only
      rw [w64 (n := 6 + x0) (by omega) (by omega)]; omega
theorem l05Draw_ev {c : List Int} {a s : Int} (h : Src c a s) : ∃ l a' s', Ev (fun k => spec_l05Draw.f k c a s) (l, a', s') ∧ Src c a' s' ∧ l.length ≤ 8 := by
  obtain ⟨l, a0, s0, e0, h0, l1, l2⟩ := l05Good_ev h
  obtain ⟨x1, a1, s1, e1, h1, b1, c1, _⟩ := l01Next_some h0 (n := (l.length : Int)) (by omega)
  have c1 := c1 (by omega)
  obtain ⟨x2, a2, s2, e2, h2, _⟩ := l01Next_some h1 (n := 40) (by omega)
  by_cases g0 : x2 = 0
  · obtain ⟨x3, a3, s3, e3, h3, _⟩ := l01Pick_some h2 (l := [wrap64 (((rd_T55 l x1).f1) - 1), 50000, 50001]) (by simp) (by simp)
    exact ⟨_, _, _, e0.bind (ev_bind0 e1 (ev_bind0 e2 (ev_pos g0 (ev_pos b1 (ev_pos c1 (ev_bind0 e3 (Ev.now _))))))), h3, by simp; omega⟩
  · by_cases g1 : x2 = 1
    · obtain ⟨x3, a3, s3, e3, h3, _⟩ := l01Pick_some h2 (l := [0, 1, 1000000, 1000001]) (by simp) (by simp)
      exact ⟨_, _, _, e0.bind (ev_bind0 e1 (ev_bind0 e2 (ev_neg g0 (ev_pos g1 (ev_bind0 e3 (ev_pos b1 (ev_pos c1 (Ev.now _)))))))), h3, by simp; omega⟩
    · by_cases g2 : x2 = 2
      · obtain ⟨m, a3, s3, e3, h3, hm⟩ := l05Draw_l0 (8 - l.length) l 500000 a2 s2 h2 (by omega)
        exact ⟨m, a3, s3, e0.bind (ev_bind0 e1 (ev_bind0 e2 (ev_neg g0 (ev_neg g1 (ev_pos g2 e3))))), h3, hm⟩
      · by_cases g3 : x2 = 3
        · exact ⟨_, _, _, e0.bind (ev_bind0 e1 (ev_bind0 e2 (ev_neg g0 (ev_neg g1 (ev_neg g2 (ev_pos g3 (ev_pos (by omega) (Ev.now _)))))))), h2, by simp⟩
        · exact ⟨_, _, _, e0.bind (ev_bind0 e1 (ev_bind0 e2 (ev_neg g0 (ev_neg g1 (ev_neg g2 (ev_neg g3 (Ev.now _))))))), h2, by show l.length ≤ 8; omega⟩
theorem l05Height_j0 {c : List Int} {a s : Int} (h : Src c a s) (l : List S55) (hl : l.length ≤ 1000) (b : Bool) (hb : b = true → 1 ≤ l.length) : ∃ x a' s', Ev (fun k => spec_l05Height.j0 k l b c a s) (x, a', s') ∧ Src c a' s' := by
  cases b with
  | true =>
    have := hb rfl
    obtain ⟨x1, a1, s1, e1, h1, b1, c1, _⟩ := l01Next_some h (n := (l.length : Int)) (by omega)
    have c1 := c1 (by omega)
    obtain ⟨x2, a2, s2, e2, h2, _⟩ := l01Next_some h1 (n := 1000) (by omega)
    obtain ⟨x3, a3, s3, e3, h3, _⟩ := l01Pick_some h2 (l := [(rd_T55 l x1).f0, wrap64 (((rd_T55 l x1).f0) - 1), wrap64 (((rd_T55 l x1).f0) + 1), wrap64 (((rd_T55 l x1).f0) - x2)]) (by simp) (by simp)
    exact ⟨_, _, _, Ev.step (fun k => spec_l05Height.j0.eq_2 ..) (ev_pos rfl (ev_bind0 e1 (ev_pos b1 (ev_pos c1 (ev_bind0 e2 (ev_bind0 e3 (Ev.now _))))))), h3⟩
  | false =>
    obtain ⟨x1, a1, s1, e1, h1, _⟩ := l01Next_some h (n := 300000) (by omega)
    obtain ⟨x2, a2, s2, e2, h2, _⟩ := l01Next_some h1 (n := 100000) (by omega)
    obtain ⟨x3, a3, s3, e3, h3, _⟩ := l01Pick_some h2 (l := [x1, 0, 1000000, 1000001, x2]) (by simp) (by simp)
    exact ⟨_, _, _, Ev.step (fun k => spec_l05Height.j0.eq_2 ..) (ev_neg (by decide) (ev_bind0 e1 (ev_bind0 e2 (ev_bind0 e3 (Ev.now _))))), h3⟩
theorem l05Height_ev {c : List Int} {a s : Int} (h : Src c a s) (l : List S55) (hl : l.length ≤ 1000) : ∃ x a' s', Ev (fun k => spec_l05Height.f k c a s l) (x, a', s') ∧ Src c a' s' := by
  by_cases g : (l.length : Int) > 0
  · obtain ⟨x1, a1, s1, e1, h1, _⟩ := l01Next_some h (n := 3) (by omega)
    obtain ⟨x, a', s', e, h'⟩ := l05Height_j0 h1 l hl (decide (x1 > 0)) (fun _ => by omega)
    exact ⟨x, a', s', ev_pos g (ev_bind0 e1 e), h'⟩
  · obtain ⟨x, a', s', e, h'⟩ := l05Height_j0 h l hl false (fun h => by cases h)
    exact ⟨x, a', s', ev_neg g e, h'⟩
theorem DrawWindAt_ev {c : List Int} (hc : Code c) : ∃ l h, Ev (fun k => spec_DrawWindAt.f k c) (l, h) ∧ l.length ≤ 8 := by
  obtain ⟨s, e, h⟩ := l01From_ev hc
  obtain ⟨l, a0, s0, e0, h0, hl⟩ := l05Draw_ev h
  obtain ⟨x, a1, s1, e1, h1⟩ := l05Height_ev h0 l (by omega)
  exact ⟨_, _, e.bind (e0.bind (e1.bind (Ev.now _))), hl⟩
theorem DrawIsCalm_ev {c : List Int} (hc : Code c) : ∃ l h m, Ev (fun k => spec_DrawIsCalm.f k c) (l, h, m) ∧ l.length ≤ 8 := by
  obtain ⟨s, e, h⟩ := l01From_ev hc
  obtain ⟨l, a0, s0, e0, h0, hl⟩ := l05Draw_ev h
  obtain ⟨x, a1, s1, e1, h1⟩ := l05Height_ev h0 l (by omega)
  obtain ⟨y, a2, s2, e2, h2, _⟩ := l01Next_some h1 (n := 12000) (by omega)
  obtain ⟨z, a3, s3, e3, h3, _⟩ := l01Pick_some h2 (l := [6000, y, 0, 50000, 50001, (-1)]) (by simp) (by simp)
  exact ⟨_, _, _, e.bind (e0.bind (e1.bind (ev_bind0 e2 (ev_bind0 e3 (Ev.now _))))), hl⟩

theorem wideF_le : ∀ (R : List S55) (a b : Int), (wideF R (a, b)).1 ≤ a ∧ b ≤ (wideF R (a, b)).2 ∧ ∀ c ∈ R, (wideF R (a, b)).1 ≤ c.f1 ∧ c.f2 ≤ (wideF R (a, b)).2
  | [], a, b => by simp [wideF]
  | c :: R, a, b => by
    unfold wideF
    obtain ⟨h1, h2, h3⟩ := wideF_le R (mn a c.f1) (mx b c.f2)
    have m1 : mn a c.f1 ≤ a ∧ mn a c.f1 ≤ c.f1 := by unfold mn; split <;> omega
    have m2 : b ≤ mx b c.f2 ∧ c.f2 ≤ mx b c.f2 := by unfold mx; split <;> omega
    refine ⟨by dsimp only; omega, by dsimp only; omega, fun d hd => ?_⟩
    rcases List.mem_cons.1 hd with rfl | hd
    · dsimp only; omega
    · exact h3 d hd
theorem commF_le : ∀ (R : List S55) (a b : Int), a ≤ (commF R (a, b)).1 ∧ (commF R (a, b)).2 ≤ b ∧ ∀ c ∈ R, c.f1 ≤ (commF R (a, b)).1 ∧ (commF R (a, b)).2 ≤ c.f2
  | [], a, b => by simp [commF]
  | c :: R, a, b => by
    unfold commF
    obtain ⟨h1, h2, h3⟩ := commF_le R (mx a c.f1) (mn b c.f2)
    have m1 : a ≤ mx a c.f1 ∧ c.f1 ≤ mx a c.f1 := by unfold mx; split <;> omega
    have m2 : mn b c.f2 ≤ b ∧ mn b c.f2 ≤ c.f2 := by unfold mn; split <;> omega
    refine ⟨by dsimp only; omega, by dsimp only; omega, fun d hd => ?_⟩
    rcases List.mem_cons.1 hd with rfl | hd
    · dsimp only; omega
    · exact h3 d hd
theorem findF_mono {x h : Int} (hx : x ≤ h) : ∀ (R : List S55) (i : Nat), 0 ≤ findF h R i → 0 ≤ findF x R i ∧ findF x R i ≤ findF h R i
  | [], i, e => by simp [findF] at e
  | c :: R, i, e => by
    unfold findF at e ⊢
    by_cases g : x ≤ c.f0
    · rw [if_pos g]
      split
      · omega
      · rename_i g2
        rw [if_neg g2] at e
        have := (findF_lt h R (i + 1))
        have k := findF_ge h R (i + 1) e
        omega
    · rw [if_neg g] 
      by_cases g2 : h ≤ c.f0
      · omega
      · rw [if_neg g2] at e ⊢
        exact findF_mono hx R (i + 1) e
where
  findF_ge (h : Int) : ∀ (R : List S55) (i : Nat), 0 ≤ findF h R i → (i : Int) ≤ findF h R i
  | [], i, e => by simp [findF] at e
  | c :: R, i, e => by
    unfold findF at e ⊢
    split
    · omega
    · rename_i g
      rw [if_neg g] at e
      have := findF_ge h R (i + 1) e
      omega
theorem mem_part {l : List S55} {h t : Int} (h0 : 0 ≤ t) (h1 : t ≤ findM l h) : rd_T55 l t ∈ partM l h := by
  have hlt := findM_lt l h
  unfold partM rd_T55
  have hi : t.toNat < l.length := by omega
  rw [List.getD_eq_getElem?_getD, List.getElem?_eq_getElem hi]
  have : (l.take (findM l h + 1).toNat)[t.toNat]? = some l[t.toNat] := by rw [List.getElem?_take, if_pos (by omega), List.getElem?_eq_getElem hi]
  exact List.mem_of_getElem? this
theorem code_low {l : List S55} {h x : Int} (e : codeM l h = 0) (h0 : 0 ≤ x) (h1 : x ≤ h) : codeM l x = 0 ∧ 0 ≤ findM l x ∧ findM l x ≤ findM l h := by
  obtain ⟨a, b, c⟩ := codeM_zero e
  have := findF_mono h1 l 0 c
  have h2 : 0 ≤ findM l x := this.1
  refine ⟨?_, this⟩
  unfold codeM
  rw [if_pos a, if_pos (by omega), if_neg (by omega)]
theorem j1_true {c : List Int} (hc : Code c) (l : List S55) (hl : l.length ≤ 8) (h : Int) : Ev (fun k => laws_FnWinds.j1 k c l h (windM l h).1 (windM l h).2.1 (windM l h).2.2 (wideM l h).1 (wideM l h).2.1 (commM l h).1 (commM l h).2.1 (commM l h).2.2) true := by
  by_cases e : codeM l h = 0
  · obtain ⟨a, b, ct⟩ := codeM_zero e
    rw [windM_eq]
    unfold wideM commM
    simp only [e, if_true]
    obtain ⟨rs, er, hd⟩ := roll_ev hc 502
    obtain ⟨x, i', h', eb, hd2, x0, x1⟩ := below_some hd (n := h + 1) (by omega)
    have hw : wrap64 (h + 1) = h + 1 := w64 (by omega) (by omega)
    rw [← hw] at eb
    obtain ⟨q1, q2, q3⟩ := code_low e x0 (by omega)
    have ew := impl_WindAt_ev l (by omega) x
    rw [windM_eq, if_pos q1] at ew
    obtain ⟨w1, w2, w3⟩ := wideF_le (partM l h) (rd_T55 l 0).f1 (rd_T55 l 0).f2
    obtain ⟨v1, v2, v3⟩ := commF_le (partM l h) (rd_T55 l 0).f1 (rd_T55 l 0).f2
    have m1 := w3 _ (mem_part ct (Int.le_refl _))
    have m2 := w3 _ (mem_part (t := findM l x) q2 q3)
    have m3 := v3 _ (mem_part ct (Int.le_refl _))
    have m4 := v3 _ (mem_part (t := findM l x) q2 q3)
    refine Ev.step (fun k => laws_FnWinds.j1.eq_2 ..) (ev_pos rfl (er.bind (ev_bind0 eb (ew.bind ?_))))
    refine ev_pos m1.1 (ev_pos m1.2 (ev_pos rfl (ev_pos m2.1 (ev_pos m2.2 ?_))))
    show Ev (fun k => if (if (commR l h).1 > (commR l h).2 then ((0 : Int), (0 : Int), (5 : Int)) else ((commR l h).1, (commR l h).2, 0)).2.2 = 5 then some true else _) true
    by_cases g : (commR l h).1 > (commR l h).2
    · simp only [g, if_true]
      exact Ev.now _
    · simp only [g, if_false]
      refine ev_neg (by decide) (ev_pos trivial (ev_pos m3.1 (ev_pos (by omega) (ev_pos m3.2 (ev_pos m4.1 (ev_ret ?_))))))
      exact decide_eq_true m4.2
  · refine Ev.step (fun k => laws_FnWinds.j1.eq_2 ..) (ev_neg ?_ (Ev.now _))
    rw [windM_eq, if_neg e]; exact e
theorem main : laws_FnWinds.Pure := by
  intro c _ _ hw
  apply Ev.rounds
  unfold laws_FnWinds.f
  by_cases g : (c.length : Int) > 4096
  · exact ev_bind0 (big_true g) (ev_pos rfl (Ev.now _))
  refine ev_bind0 (big_false g) (ev_neg (by decide) ?_)
  have hc := code_of hw g
  obtain ⟨l, h, el, hl⟩ := DrawWindAt_ev hc
  obtain ⟨l2, h2, m, ec, hl2⟩ := DrawIsCalm_ev hc
  refine el.bind ((impl_WindAt_ev l (by omega) h).bind ((spec_WindAt_ev l (by omega) h).bind ((impl_WidestWind_ev l (by omega) h).bind ((spec_WidestWind_ev l (by omega) h).bind ((impl_CommonWind_ev l (by omega) h).bind ((spec_CommonWind_ev l (by omega) h).bind (ec.bind ((impl_IsCalm_ev l2 (by omega) h2 m).bind ((spec_IsCalm_ev l2 (by omega) h2 m).bind ?_)))))))))
  refine ev_pos rfl (ev_pos rfl (ev_pos rfl (ev_pos rfl (ev_pos rfl (ev_pos rfl (ev_pos rfl (ev_pos rfl (ev_pos rfl (ev_pos rfl (ev_neg (by simp) ((impl_IsProfile_ev l (by omega)).bind ((spec_IsProfile_ev l (by omega)).bind (ev_neg (by simp) ?_)))))))))))))
  have e3 : (wideM l h).2.2 = (windM l h).2.2 := by rw [windM_eq]; unfold wideM; split <;> rfl
  refine Ev.step (fun k => laws_FnWinds.j0.eq_2 ..) (ev_neg (by rw [e3]; simp) ?_)
  have fin := j1_true hc l hl h
  by_cases e : (calmM l2 h2 m).2 = 0
  · refine ev_pos e ?_
    have ecode : codeM l2 (calmH h2 m) = 0 := by
      unfold calmM at e
      split at e
      · assumption
      · exact e
    have hm : 0 ≤ m ∧ m ≤ 50000 := by
      obtain ⟨_, b, _⟩ := codeM_zero ecode
      unfold calmH at b
      split at b
      · assumption
      · omega
    have hh : calmH h2 m = h2 := by unfold calmH; rw [if_pos hm]
    rw [hh] at ecode
    obtain ⟨pa, pb, pc⟩ := codeM_zero ecode
    have hl3 := profB_len pa
    have wm : wideM l2 h2 = ((wideR l2 h2).1, (wideR l2 h2).2, 0) := by unfold wideM; rw [if_pos ecode]
    have cm : (calmM l2 h2 m).1 = decide ((wideR l2 h2).1 ≥ -m ∧ (wideR l2 h2).2 ≤ m) := by
      unfold calmM
      rw [hh, if_pos ecode]
      have w := wideF_calm m (partM l2 h2) (rd_T55 l2 0).f1 (rd_T55 l2 0).f2
      have ph := part_head (l := l2) (h := h2) pc (by omega)
      unfold calmL wideR
      refine decide_eq_decide.2 ?_
      rw [w]
      constructor
      · intro z; exact ⟨z _ ph, z⟩
      · intro z; exact z.2
    have ew := impl_WidestWind_ev l2 (by omega) h2
    rw [wm] at ew
    refine ew.bind (ev_pos rfl ?_)
    rw [w64 (n := -m) (by omega) (by omega), cm]
    by_cases u : (wideR l2 h2).1 ≥ -m
    · refine ev_pos u (ev_neg ?_ fin)
      simp [u]
    · refine ev_neg u (ev_neg ?_ fin)
      simp [u]
  · exact ev_neg e fin

end Go.Proofs.Ytidibjmckgbpbaa.PureFnWinds
namespace Go.Proofs.Ytidibjmckgbpbaa.Pure
theorem FnWinds : QFnWinds.laws_FnWinds.Pure := PureFnWinds.main
end Go.Proofs.Ytidibjmckgbpbaa.Pure
