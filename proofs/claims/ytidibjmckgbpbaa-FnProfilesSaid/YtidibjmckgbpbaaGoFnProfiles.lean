/- A joined profile has all winds of both, and is a profile; no condition. -/
import Derived.Test.YtidibjmckgbpbaaMa
import Derived.Test.YtidibjmckgbpbaaQFnProfilesx
namespace Go.Proofs.Ytidibjmckgbpbaa.GoFnProfiles
open Go.RowKit Go.Proofs.Ytidibjmckgbpbaa.QFnProfiles Go.Proofs.YtidibjmckgbpbaaW.PrintWords Go.Proofs.YtidibjmckgbpbaaW.PrintLast Go.Proofs.Ytidibjmckgbpbaa.Ma
set_option linter.unusedVariables false
set_option linter.unusedSimpArgs false

/-! ### division, ranges -/
theorem in_eq (a b c : Int) : spec_l01In.f a b c = some (decide (b ≤ a ∧ a ≤ c)) := by
  unfold spec_l01In.f
  by_cases h : b ≤ a <;> simp [h]
theorem within_eq (a b c : Int) : impl_within.f a b c = some (decide (b ≤ a ∧ a ≤ c)) := by
  unfold impl_within.f
  by_cases h : b ≤ a <;> simp [h]
theorem tdiv_floor {a b : Int} (hb : 0 < b) : (Int.tmod a b < 0 → Int.tdiv a b - 1 = a / b) ∧ (¬ Int.tmod a b < 0 → Int.tdiv a b = a / b) := by
  have h1 := Int.tdiv_eq_ediv (a := a) (b := b)
  have h2 := Int.tmod_eq_emod (a := a) (b := b)
  have h3 := Int.emod_nonneg a (show b ≠ 0 by omega)
  have h4 := Int.emod_lt_of_pos a hb
  by_cases h : 0 ≤ a ∨ b ∣ a
  · rw [if_pos h] at h1 h2
    omega
  · rw [if_neg h] at h1 h2
    rw [Int.sign_eq_one_of_pos hb] at h1
    omega
theorem ediv_small {a b : Int} (hb : 0 < b) (h : -4611686018427387904 ≤ a) (h' : a ≤ 4611686018427387904) : -4611686018427387904 ≤ a / b ∧ a / b ≤ 4611686018427387904 := by
  have h1 : -4611686018427387904 * b ≤ a := by
    have := Int.mul_le_mul_of_nonneg_left (show 1 ≤ b by omega) (show (0 : Int) ≤ 4611686018427387904 by omega); omega
  have h2 : a < (4611686018427387904 + 1) * b := by
    have := Int.mul_le_mul_of_nonneg_left (show 1 ≤ b by omega) (show (0 : Int) ≤ 4611686018427387905 by omega); omega
  have h3 := (Int.le_ediv_iff_mul_le hb).2 h1
  have h4 := (Int.ediv_lt_iff_lt_mul hb).2 h2
  omega
/-! ### profiles -/
def layB (x : S55) : Bool := decide (1 ≤ x.f0 ∧ x.f0 ≤ 1000000) && (decide (-50000 ≤ x.f1 ∧ x.f1 ≤ 50000) && decide (x.f1 ≤ x.f2 ∧ x.f2 ≤ 50000))
def profL : Option S55 → List S55 → Bool
  | _, [] => true
  | none, x :: R => layB x && profL (some x) R
  | some q, x :: R => layB x && (decide (q.f0 < x.f0) && profL (some x) R)
def profB (m : List S55) : Bool := decide (1 ≤ m.length ∧ m.length ≤ 6) && profL none m
def prevAt (l : List S55) (i : Nat) : Option S55 := if i = 0 then none else some (rdOf z55 l ((i : Int) - 1))
theorem prev_next {l R : List S55} {i : Nat} {c : S55} (h : l.drop i = c :: R) : prevAt l (i + 1) = some c := by
  obtain ⟨h1, h2, h3⟩ := rdOf_drop (d := z55) h
  unfold prevAt
  rw [if_neg (by omega), show ((i + 1 : Nat) : Int) - 1 = (i : Int) by omega, h2]
theorem spec_IsProfile_l0 (l : List S55) (hl : l.length ≤ 4611686018427387904) : ∀ (R : List S55) (i : Nat), l.drop i = R → Ev (fun k => spec_IsProfile.l0 k l i) (profL (prevAt l i) R && decide (1 ≤ l.length ∧ l.length ≤ 6)) := by
  intro R
  induction R with
  | nil =>
    intro i h
    have := drop_nil h
    refine Ev.step (fun k => spec_IsProfile.l0.eq_2 ..) (ev_neg (by omega) (ev_bind0 (in_eq ..) (ev_ret ?_)))
    have e : profL (prevAt l i) [] = true := by unfold profL; rfl
    rw [e, Bool.true_and]
    exact decide_eq_decide.2 (by omega)
  | cons c R ih =>
    intro i h
    obtain ⟨h1, h2, h3⟩ := rdOf_drop (d := z55) h
    have h2' : rd_T55 l (i : Int) = c := h2
    refine Ev.step (fun k => spec_IsProfile.l0.eq_2 ..) (ev_pos (by omega) (ev_pos (by omega) ?_))
    rw [h2', w64 (n := (i : Int) + 1) (by omega) (by omega)]
    have hn := ih (i + 1) h3
    rw [prev_next h] at hn
    refine ev_bind0 (in_eq ..) ?_
    by_cases a : 1 ≤ c.f0 ∧ c.f0 ≤ 1000000
    · refine ev_pos (by simpa using a) (ev_bind0 (in_eq ..) ?_)
      by_cases b : -50000 ≤ c.f1 ∧ c.f1 ≤ 50000
      · refine ev_pos (by simpa using b) (ev_bind0 (in_eq ..) ?_)
        by_cases d : c.f1 ≤ c.f2 ∧ c.f2 ≤ 50000
        · refine ev_pos (by simpa using d) ?_
          have hc : layB c = true := by unfold layB; simp [a, b, d]
          by_cases g : (i : Int) > 0
          · refine ev_pos g ?_
            rw [w64 (n := (i : Int) - 1) (by omega) (by omega)]
            refine ev_pos (by omega) (ev_pos (by omega) ?_)
            have hp : prevAt l i = some (rdOf z55 l ((i : Int) - 1)) := by unfold prevAt; rw [if_neg (by omega)]
            rw [hp]
            by_cases u : (rd_T55 l ((i : Int) - 1)).f0 ≥ c.f0
            · refine ev_pos u (ev_ret ?_)
              have u' : ¬ (rdOf z55 l ((i : Int) - 1)).f0 < c.f0 := by
                have : rd_T55 l ((i : Int) - 1) = rdOf z55 l ((i : Int) - 1) := rfl
                rw [← this]; omega
              simp [profL, u']
            · refine ev_neg u ?_
              have u' : (rdOf z55 l ((i : Int) - 1)).f0 < c.f0 := by
                have : rd_T55 l ((i : Int) - 1) = rdOf z55 l ((i : Int) - 1) := rfl
                rw [← this]; omega
              have e : profL (some (rdOf z55 l ((i : Int) - 1))) (c :: R) = profL (some c) R := by simp [profL, hc, u']
              rw [e]; exact hn
          · refine ev_neg g ?_
            have hp : prevAt l i = none := by unfold prevAt; rw [if_pos (by omega)]
            have e : profL none (c :: R) = profL (some c) R := by simp [profL, hc]
            rw [hp, e]; exact hn
        · refine ev_neg (by simpa using d) (ev_ret ?_)
          have hc : layB c = false := by unfold layB; simp [d]
          cases prevAt l i <;> simp [profL, hc]
      · refine ev_neg (by simpa using b) (ev_ret ?_)
        have hc : layB c = false := by unfold layB; simp [b]
        cases prevAt l i <;> simp [profL, hc]
    · refine ev_neg (by simpa using a) (ev_ret ?_)
      have hc : layB c = false := by unfold layB; simp [a]
      cases prevAt l i <;> simp [profL, hc]
theorem spec_IsProfile_ev (l : List S55) (hl : l.length ≤ 4611686018427387904) : Ev (fun k => spec_IsProfile.f k l) (profB l) := by
  have h := spec_IsProfile_l0 l hl l 0 rfl
  have e : profB l = (profL (prevAt l 0) l && decide (1 ≤ l.length ∧ l.length ≤ 6)) := by unfold profB prevAt; rw [if_pos rfl, Bool.and_comm]
  rw [e]; exact h
theorem isSide_eq (n : Int) : impl_isSide.f n = some (decide (-50000 ≤ n ∧ n ≤ 50000)) := by unfold impl_isSide.f; rw [within_eq]; rfl
theorem areWinds_eq (a b : Int) : impl_areWinds.f a b = some (decide (-50000 ≤ a ∧ a ≤ 50000) && decide (a ≤ b ∧ b ≤ 50000)) := by
  unfold impl_areWinds.f
  rw [isSide_eq, isSide_eq]
  simp only [Option.bind_some]
  by_cases h : -50000 ≤ a ∧ a ≤ 50000
  · rw [if_pos (by simpa using h)]
    by_cases g : -50000 ≤ b ∧ b ≤ 50000
    · rw [if_pos (by simpa using g)]
      simp [h]; omega
    · rw [if_neg (by simpa using g)]
      simp [h]; omega
  · rw [if_neg (by simpa using h)]
    simp [h]
theorem impl_IsProfile_l0 (l : List S55) (hl : l.length ≤ 4611686018427387904) : ∀ (R : List S55) (i : Nat), l.drop i = R → Ev (fun k => impl_IsProfile.l0 k l l (l.length : Int) i) (profL (prevAt l i) R) := by
  intro R
  induction R with
  | nil =>
    intro i h
    have := drop_nil h
    refine Ev.step (fun k => impl_IsProfile.l0.eq_2 ..) (ev_neg (by omega) (ev_ret ?_))
    unfold profL; rfl
  | cons c R ih =>
    intro i h
    obtain ⟨h1, h2, h3⟩ := rdOf_drop (d := z55) h
    have h2' : rd_T55 l (i : Int) = c := h2
    refine Ev.step (fun k => impl_IsProfile.l0.eq_2 ..) (ev_pos (by omega) (ev_pos (by omega) (ev_pos (by omega) ?_)))
    rw [h2', w64 (n := (i : Int) + 1) (by omega) (by omega)]
    have hn := ih (i + 1) h3
    rw [prev_next h] at hn
    refine ev_bind0 (within_eq ..) ?_
    by_cases a : 1 ≤ c.f0 ∧ c.f0 ≤ 1000000
    · refine ev_pos (by simpa using a) (ev_bind0 (areWinds_eq ..) ?_)
      by_cases b : (decide (-50000 ≤ c.f1 ∧ c.f1 ≤ 50000) && decide (c.f1 ≤ c.f2 ∧ c.f2 ≤ 50000)) = true
      · refine ev_pos b ?_
        have hc : layB c = true := by unfold layB; rw [b]; simp [a]
        by_cases g : (i : Int) > 0
        · refine ev_pos g ?_
          rw [w64 (n := (i : Int) - 1) (by omega) (by omega)]
          refine ev_pos (by omega) (ev_pos (by omega) ?_)
          have hp : prevAt l i = some (rdOf z55 l ((i : Int) - 1)) := by unfold prevAt; rw [if_neg (by omega)]
          rw [hp]
          by_cases u : (rd_T55 l ((i : Int) - 1)).f0 ≥ c.f0
          · refine ev_pos u (ev_ret ?_)
            have u' : ¬ (rdOf z55 l ((i : Int) - 1)).f0 < c.f0 := by
              have : rd_T55 l ((i : Int) - 1) = rdOf z55 l ((i : Int) - 1) := rfl
              rw [← this]; omega
            simp [profL, u']
          · refine ev_neg u ?_
            have u' : (rdOf z55 l ((i : Int) - 1)).f0 < c.f0 := by
              have : rd_T55 l ((i : Int) - 1) = rdOf z55 l ((i : Int) - 1) := rfl
              rw [← this]; omega
            have e : profL (some (rdOf z55 l ((i : Int) - 1))) (c :: R) = profL (some c) R := by simp [profL, hc, u']
            rw [e]; exact hn
        · refine ev_neg g ?_
          have hp : prevAt l i = none := by unfold prevAt; rw [if_pos (by omega)]
          have e : profL none (c :: R) = profL (some c) R := by simp [profL, hc]
          rw [hp, e]; exact hn
      · refine ev_neg b (ev_ret ?_)
        have hc : layB c = false := by unfold layB; simp only [Bool.not_eq_true] at b; rw [b]; simp
        cases prevAt l i <;> simp [profL, hc]
    · refine ev_neg (by simpa using a) (ev_ret ?_)
      have hc : layB c = false := by unfold layB; simp [a]
      cases prevAt l i <;> simp [profL, hc]
theorem impl_IsProfile_ev (l : List S55) (hl : l.length ≤ 4611686018427387904) : Ev (fun k => impl_IsProfile.f k l) (profB l) := by
  have h := impl_IsProfile_l0 l hl l 0 rfl
  have e0 : prevAt l 0 = none := by unfold prevAt; rw [if_pos rfl]
  rw [e0] at h
  unfold impl_IsProfile.f profB
  by_cases a : (l.length : Int) < 1
  · refine ev_pos a (Ev.step (fun k => impl_IsProfile.j0.eq_2 ..) (ev_pos rfl (ev_ret ?_)))
    simp; omega
  · refine ev_neg a (Ev.step (fun k => impl_IsProfile.j0.eq_2 ..) ?_)
    by_cases b : (l.length : Int) > 6
    · refine ev_pos (by simpa using b) (ev_ret ?_)
      simp; omega
    · refine ev_neg (by simpa using b) ?_
      have e : (decide (1 ≤ l.length ∧ l.length ≤ 6) && profL none l) = profL none l := by
        simp; intro _; omega
      rw [e]; exact h

/-! ### the first gust -/
def findF (h : Int) : List S55 → Nat → Int
  | [], _ => -1
  | c :: R, i => if h ≤ c.f0 then (i : Int) else findF h R (i + 1)
def findM (l : List S55) (h : Int) : Int := findF h l 0
theorem findF_lt (h : Int) : ∀ (R : List S55) (i : Nat), findF h R i < (i + R.length : Nat) ∧ -1 ≤ findF h R i
  | [], i => by unfold findF; constructor <;> omega
  | c :: R, i => by
    unfold findF
    have := findF_lt h R (i + 1)
    simp only [List.length_cons]
    split
    · omega
    · omega
theorem findM_lt (l : List S55) (h : Int) : findM l h < (l.length : Int) := by have := (findF_lt h l 0).1; unfold findM; omega
theorem impl_layerOf_l0 (l : List S55) (hl : l.length ≤ 4611686018427387904) (h : Int) : ∀ (R : List S55) (i : Nat), l.drop i = R → Ev (fun k => impl_layerOf.l0 k h l (l.length : Int) i) (findF h R i) := by
  intro R
  induction R with
  | nil =>
    intro i e
    have := drop_nil e
    exact Ev.step (fun k => impl_layerOf.l0.eq_2 ..) (ev_neg (by omega) (Ev.now _))
  | cons c R ih =>
    intro i e
    obtain ⟨h1, h2, h3⟩ := rdOf_drop (d := z55) e
    have h2' : rd_T55 l (i : Int) = c := h2
    refine Ev.step (fun k => impl_layerOf.l0.eq_2 ..) (ev_pos (by omega) (ev_pos (by omega) (ev_pos (by omega) ?_)))
    rw [h2', w64 (n := (i : Int) + 1) (by omega) (by omega)]
    unfold findF
    by_cases g : h ≤ c.f0
    · exact ev_pos g (ev_ret (by rw [if_pos g]))
    · rw [if_neg g]; exact ev_neg g (ih (i + 1) h3)
theorem impl_layerOf_ev (l : List S55) (hl : l.length ≤ 4611686018427387904) (h : Int) : Ev (fun k => impl_layerOf.f k l h) (findM l h) := impl_layerOf_l0 l hl h l 0 rfl
theorem spec_l05Find_l0 (l : List S55) (hl : l.length ≤ 4611686018427387904) (h : Int) : ∀ (R : List S55) (i : Nat), l.drop i = R → Ev (fun k => spec_l05Find.l0 k l h i) (findF h R i) := by
  intro R
  induction R with
  | nil =>
    intro i e
    have := drop_nil e
    exact Ev.step (fun k => spec_l05Find.l0.eq_2 ..) (ev_neg (by omega) (Ev.now _))
  | cons c R ih =>
    intro i e
    obtain ⟨h1, h2, h3⟩ := rdOf_drop (d := z55) e
    have h2' : rd_T55 l (i : Int) = c := h2
    refine Ev.step (fun k => spec_l05Find.l0.eq_2 ..) (ev_pos (by omega) (ev_pos (by omega) ?_))
    rw [h2', w64 (n := (i : Int) + 1) (by omega) (by omega)]
    unfold findF
    by_cases g : h ≤ c.f0
    · exact ev_pos g (ev_ret (by rw [if_pos g]))
    · rw [if_neg g]; exact ev_neg (by omega) (ih (i + 1) h3)
theorem spec_l05Find_ev (l : List S55) (hl : l.length ≤ 4611686018427387904) (h : Int) : Ev (fun k => spec_l05Find.f k l h) (findM l h) := spec_l05Find_l0 l hl h l 0 rfl
/-! ### joined profiles -/
theorem mn_le (a b : Int) : mn a b ≤ a ∧ mn a b ≤ b ∧ (mn a b = a ∨ mn a b = b) := by unfold mn; split <;> omega
def tp (l : List S55) : List Int := l.map (fun c => c.f0)
theorem profL_gt : ∀ (R : List S55) (q : S55), profL (some q) R = true → ∀ c ∈ R, q.f0 < c.f0
  | [], _, _, c, hc => by simp at hc
  | x :: R, q, h, c, hc => by
    simp only [profL, Bool.and_eq_true, decide_eq_true_eq] at h
    rcases List.mem_cons.1 hc with rfl | hc
    · exact h.2.1
    · have := profL_gt R x h.2.2 c hc; omega
theorem profL_tail {p : Option S55} {x : S55} {R : List S55} (h : profL p (x :: R) = true) : profL (some x) R = true := by
  cases p <;> simp only [profL, Bool.and_eq_true] at h
  · exact h.2
  · exact h.2.2
theorem profL_pw : ∀ (R : List S55) (p : Option S55), profL p R = true → R.Pairwise (fun a b => a.f0 < b.f0)
  | [], _, _ => List.Pairwise.nil
  | x :: R, p, h => List.Pairwise.cons (fun c hc => profL_gt R x (profL_tail h) c hc) (profL_pw R (some x) (profL_tail h))
/-! #### numbers with one more, each once -/
def insU : List Int → Int → List Int
  | [], n => [n]
  | c :: R, n => if c < n then c :: insU R n else if c = n then c :: R else n :: c :: R
theorem insU_mem (n t : Int) : ∀ l : List Int, t ∈ insU l n ↔ t ∈ l ∨ t = n
  | [] => by simp [insU]
  | c :: R => by
    unfold insU
    split
    · rw [List.mem_cons, insU_mem n t R, List.mem_cons]; exact or_assoc.symm
    · split
      · rename_i h; subst h; simp only [List.mem_cons]; constructor
        · intro h; exact .inl h
        · rintro (h | h)
          · exact h
          · exact .inl h
      · simp only [List.mem_cons]; constructor
        · rintro (h | h | h)
          · exact .inr h
          · exact .inl (.inl h)
          · exact .inl (.inr h)
        · rintro ((h | h) | h)
          · exact .inr (.inl h)
          · exact .inr (.inr h)
          · exact .inl h
theorem insU_pw (n : Int) : ∀ l : List Int, l.Pairwise (· < ·) → (insU l n).Pairwise (· < ·)
  | [], _ => by simp [insU]
  | c :: R, h => by
    have h1 := (List.pairwise_cons.1 h).1
    have h2 := (List.pairwise_cons.1 h).2
    unfold insU
    split
    · rename_i g
      refine List.pairwise_cons.2 ⟨fun t ht => ?_, insU_pw n R h2⟩
      rcases (insU_mem n t R).1 ht with ht | ht
      · exact h1 t ht
      · rw [ht]; exact g
    · split
      · exact h
      · refine List.pairwise_cons.2 ⟨fun t ht => ?_, h⟩
        rcases List.mem_cons.1 ht with rfl | ht
        · omega
        · have := h1 t ht; omega
theorem insU_len (n : Int) : ∀ l : List Int, (insU l n).length ≤ l.length + 1
  | [] => by simp [insU]
  | c :: R => by
    have := insU_len n R
    unfold insU
    split
    · simp; omega
    · split <;> simp
theorem spec_l03Insert_l0 (l : List Int) (hl : l.length ≤ 1000000) (n : Int) : ∀ (R : List Int) (i : Nat), l.drop i = R → i ≤ l.length → Ev (fun k => spec_l03Insert.l0 k l n i) (l.take i ++ insU R n) := by
  intro R
  induction R with
  | nil =>
    intro i h hi
    have := drop_nil h
    refine Ev.step (fun k => spec_l03Insert.l0.eq_2 ..) (ev_neg (by omega) (ev_pos ⟨by omega, by omega, by omega⟩ (ev_ret ?_)))
    rw [show ((i : Nat) : Int).toNat = i by omega, h]
    simp [insU]
  | cons c R ih =>
    intro i h hi
    obtain ⟨h1, h2, h3⟩ := rd_drop h
    obtain ⟨_, h4, _⟩ := drop_cons h
    refine Ev.step (fun k => spec_l03Insert.l0.eq_2 ..) (ev_pos (by omega) (ev_pos (by omega) ?_))
    rw [h2, w64 (n := (i : Int) + 1) (by omega) (by omega)]
    unfold insU
    by_cases g : c < n
    · have e := ih (i + 1) h3 (by omega)
      rw [List.take_add_one, h4] at e
      refine ev_pos g ?_
      rw [if_pos g]
      simpa using e
    · rw [if_neg g]
      refine ev_neg g ?_
      by_cases g2 : c = n
      · refine ev_pos g2 (ev_ret ?_)
        rw [if_pos g2, ← h, List.take_append_drop]
      · refine ev_neg g2 (ev_pos ⟨by omega, by omega, by omega⟩ (ev_ret ?_))
        rw [if_neg g2, show ((i : Nat) : Int).toNat = i by omega, h]
        simp
theorem spec_l03Insert_ev (l : List Int) (hl : l.length ≤ 1000000) (n : Int) : Ev (fun k => spec_l03Insert.f k l n) (insU l n) := by
  have := spec_l03Insert_l0 l hl n l 0 rfl (by omega)
  rw [List.take_zero, List.nil_append] at this
  exact this
def topsF (e : Int) : List S55 → List Int → List Int
  | [], acc => acc
  | c :: R, acc => if c.f0 ≤ e then topsF e R (insU acc c.f0) else topsF e R acc
theorem topsF_mem (e t : Int) : ∀ (R : List S55) (acc : List Int), t ∈ topsF e R acc ↔ t ∈ acc ∨ ((∃ c ∈ R, c.f0 = t) ∧ t ≤ e)
  | [], acc => by simp [topsF]
  | c :: R, acc => by
    unfold topsF
    split
    · rename_i g
      rw [topsF_mem e t R, insU_mem]
      constructor
      · rintro ((h | h) | ⟨⟨d, hd, h⟩, h'⟩)
        · exact .inl h
        · exact .inr ⟨⟨c, by simp, h.symm⟩, by omega⟩
        · exact .inr ⟨⟨d, by simp [hd], h⟩, h'⟩
      · rintro (h | ⟨⟨d, hd, h⟩, h'⟩)
        · exact .inl (.inl h)
        · rcases List.mem_cons.1 hd with rfl | hd
          · exact .inl (.inr h.symm)
          · exact .inr ⟨⟨d, hd, h⟩, h'⟩
    · rename_i g
      rw [topsF_mem e t R]
      constructor
      · rintro (h | ⟨⟨d, hd, h⟩, h'⟩)
        · exact .inl h
        · exact .inr ⟨⟨d, by simp [hd], h⟩, h'⟩
      · rintro (h | ⟨⟨d, hd, h⟩, h'⟩)
        · exact .inl h
        · rcases List.mem_cons.1 hd with rfl | hd
          · omega
          · exact .inr ⟨⟨d, hd, h⟩, h'⟩
theorem topsF_pw (e : Int) : ∀ (R : List S55) (acc : List Int), acc.Pairwise (· < ·) → (topsF e R acc).Pairwise (· < ·)
  | [], acc, h => h
  | c :: R, acc, h => by
    unfold topsF
    split
    · exact topsF_pw e R _ (insU_pw _ _ h)
    · exact topsF_pw e R _ h
theorem topsF_len (e : Int) : ∀ (R : List S55) (acc : List Int), (topsF e R acc).length ≤ acc.length + R.length
  | [], acc => by simp [topsF]
  | c :: R, acc => by
    unfold topsF
    split
    · have := topsF_len e R (insU acc c.f0)
      have := insU_len c.f0 acc
      simp only [List.length_cons]; omega
    · have := topsF_len e R acc
      simp only [List.length_cons]; omega
theorem pw_ext : ∀ (l m : List Int), l.Pairwise (· < ·) → m.Pairwise (· < ·) → (∀ t, t ∈ l ↔ t ∈ m) → l = m
  | [], [], _, _, _ => rfl
  | [], b :: m, _, _, h => by have := (h b).2 (by simp); simp at this
  | a :: l, [], _, _, h => by have := (h a).1 (by simp); simp at this
  | a :: l, b :: m, hl, hm, h => by
    obtain ⟨l1, l2⟩ := List.pairwise_cons.1 hl
    obtain ⟨m1, m2⟩ := List.pairwise_cons.1 hm
    have e : a = b := by
      rcases List.mem_cons.1 ((h a).1 (by simp)) with e | e
      · exact e
      · rcases List.mem_cons.1 ((h b).2 (by simp)) with f | f
        · exact f.symm
        · have := m1 a e; have := l1 b f; omega
    subst e
    rw [pw_ext l m l2 m2 (fun t => ⟨fun ht => ?_, fun ht => ?_⟩)]
    · rcases List.mem_cons.1 ((h t).1 (by simp [ht])) with e | e
      · have := l1 t ht; omega
      · exact e
    · rcases List.mem_cons.1 ((h t).2 (by simp [ht])) with e | e
      · have := m1 t ht; omega
      · exact e
/-! #### both at once -/
def jn (x y : S55) : S55 := ⟨mn x.f0 y.f0, mn x.f1 y.f1, mx x.f2 y.f2⟩
def mg (e : Int) : Nat → List S55 → List S55 → List S55
  | 0, _, _ => []
  | _ + 1, [], _ => []
  | _ + 1, _ :: _, [] => []
  | n + 1, x :: X, y :: Y => if mn x.f0 y.f0 > e then [] else jn x y :: mg e n (if x.f0 = mn x.f0 y.f0 then X else x :: X) (if y.f0 = mn x.f0 y.f0 then Y else y :: Y)
theorem mg_nil1 (e : Int) (n : Nat) (Y : List S55) : mg e n [] Y = [] := by cases n <;> rfl
theorem mg_nil2 (e : Int) (n : Nat) (X : List S55) : mg e n X [] = [] := by cases n <;> cases X <;> rfl
abbrev Inc (l : List S55) : Prop := l.Pairwise (fun a b => a.f0 < b.f0)
theorem step_sub {x : S55} {X : List S55} {t : Int} : ∀ z ∈ (if x.f0 = t then X else x :: X), z ∈ x :: X := by
  intro z hz
  split at hz
  · simp [hz]
  · exact hz
theorem step_inc {x : S55} {X : List S55} {t : Int} (h : Inc (x :: X)) : Inc (if x.f0 = t then X else x :: X) := by
  split
  · exact (List.pairwise_cons.1 h).2
  · exact h
theorem step_gt {x : S55} {X : List S55} {t : Int} (h : Inc (x :: X)) (ht : t ≤ x.f0) : ∀ z ∈ (if x.f0 = t then X else x :: X), t < z.f0 := by
  have h1 := (List.pairwise_cons.1 h).1
  intro z hz
  split at hz
  · have := h1 z hz; omega
  · rcases List.mem_cons.1 hz with rfl | hz
    · omega
    · have := h1 z hz; omega
theorem step_len {x : S55} {X : List S55} {t : Int} : (if x.f0 = t then X else x :: X).length ≤ X.length + 1 := by
  split <;> simp
theorem step_lens {x y : S55} {X Y : List S55} : (if x.f0 = mn x.f0 y.f0 then X else x :: X).length + (if y.f0 = mn x.f0 y.f0 then Y else y :: Y).length ≤ X.length + Y.length + 1 := by
  have := (mn_le x.f0 y.f0).2.2
  split
  · split <;> simp <;> omega
  · rw [if_pos (by omega)]; simp; omega
theorem mg_gt (e s : Int) : ∀ (n : Nat) (X Y : List S55), (∀ z ∈ X, s < z.f0) → (∀ z ∈ Y, s < z.f0) → ∀ m ∈ mg e n X Y, s < m.f0
  | 0, _, _, _, _, m, hm => by simp [mg] at hm
  | _ + 1, [], _, _, _, m, hm => by simp [mg] at hm
  | _ + 1, _ :: _, [], _, _, m, hm => by simp [mg] at hm
  | n + 1, x :: X, y :: Y, hX, hY, m, hm => by
    unfold mg at hm
    split at hm
    · simp at hm
    · rcases List.mem_cons.1 hm with rfl | hm
      · have h1 := hX x (by simp)
        have h2 := hY y (by simp)
        show s < mn x.f0 y.f0
        unfold mn; split <;> omega
      · exact mg_gt e s n _ _ (fun z hz => hX z (step_sub z hz)) (fun z hz => hY z (step_sub z hz)) m hm
theorem mg_pw (e : Int) : ∀ (n : Nat) (X Y : List S55), Inc X → Inc Y → Inc (mg e n X Y)
  | 0, _, _, _, _ => by simp [mg]
  | _ + 1, [], _, _, _ => by simp [mg]
  | _ + 1, _ :: _, [], _, _ => by simp [mg]
  | n + 1, x :: X, y :: Y, hX, hY => by
    unfold mg
    split
    · exact List.Pairwise.nil
    · exact List.pairwise_cons.2 ⟨mg_gt e _ n _ _ (step_gt hX (mn_le x.f0 y.f0).1) (step_gt hY (mn_le x.f0 y.f0).2.1), mg_pw e n _ _ (step_inc hX) (step_inc hY)⟩
def lastGe (e : Int) (X : List S55) : Prop := ∀ (h : X ≠ []), e ≤ (X.getLast h).f0
theorem lastGe_step {e t : Int} {x : S55} {X : List S55} (h : lastGe e (x :: X)) : lastGe e (if x.f0 = t then X else x :: X) := by
  split
  · intro hX
    have := h (by simp)
    rwa [List.getLast_cons hX] at this
  · exact h
theorem mg_mem (e t : Int) : ∀ (n : Nat) (X Y : List S55), X.length + Y.length ≤ n → Inc X → Inc Y → lastGe e X → lastGe e Y → (X = [] → ∀ y ∈ Y, e < y.f0) → (Y = [] → ∀ x ∈ X, e < x.f0) →
    ((∃ m ∈ mg e n X Y, m.f0 = t) ↔ ((∃ c ∈ X, c.f0 = t) ∨ (∃ c ∈ Y, c.f0 = t)) ∧ t ≤ e) := by
  intro n
  induction n with
  | zero =>
    intro X Y hn _ _ _ _ _ _
    have hX : X = [] := List.length_eq_zero_iff.1 (by omega)
    have hY : Y = [] := List.length_eq_zero_iff.1 (by omega)
    subst hX hY
    simp [mg]
  | succ n ih =>
    intro X Y hn iX iY lX lY cX cY
    cases X with
    | nil =>
      rw [mg_nil1]
      constructor
      · rintro ⟨m, hm, _⟩; simp at hm
      · rintro ⟨⟨c, hc, h⟩ | ⟨c, hc, h⟩, h'⟩
        · simp at hc
        · have := cX rfl c hc; omega
    | cons x X =>
      cases Y with
      | nil =>
        rw [mg_nil2]
        constructor
        · rintro ⟨m, hm, _⟩; simp at hm
        · rintro ⟨⟨c, hc, h⟩ | ⟨c, hc, h⟩, h'⟩
          · have := cY rfl c hc; omega
          · simp at hc
      | cons y Y =>
        have hX1 := (List.pairwise_cons.1 iX).1
        have hY1 := (List.pairwise_cons.1 iY).1
        obtain ⟨m1, m2, m3⟩ := mn_le x.f0 y.f0
        unfold mg
        by_cases g : mn x.f0 y.f0 > e
        · rw [if_pos g]
          constructor
          · rintro ⟨m, hm, _⟩; simp at hm
          · rintro ⟨⟨c, hc, h⟩ | ⟨c, hc, h⟩, h'⟩
            · rcases List.mem_cons.1 hc with rfl | hc
              · omega
              · have := hX1 c hc; omega
            · rcases List.mem_cons.1 hc with rfl | hc
              · omega
              · have := hY1 c hc; omega
        · rw [if_neg g]
          have gX := step_gt iX m1
          have gY := step_gt iY m2
          have hl := step_lens (x := x) (y := y) (X := X) (Y := Y)
          have key := ih (if x.f0 = mn x.f0 y.f0 then X else x :: X) (if y.f0 = mn x.f0 y.f0 then Y else y :: Y) (by simp only [List.length_cons] at hn; omega) (step_inc iX) (step_inc iY) (lastGe_step lX) (lastGe_step lY)
            (by
              intro h z hz
              have hx : x.f0 = mn x.f0 y.f0 := by
                by_cases q : x.f0 = mn x.f0 y.f0
                · exact q
                · rw [if_neg q] at h; exact absurd h (by simp)
              rw [if_pos hx] at h
              subst h
              have := lX (by simp)
              simp only [List.getLast_singleton] at this
              have := gY z hz
              omega)
            (by
              intro h z hz
              have hy : y.f0 = mn x.f0 y.f0 := by
                by_cases q : y.f0 = mn x.f0 y.f0
                · exact q
                · rw [if_neg q] at h; exact absurd h (by simp)
              rw [if_pos hy] at h
              subst h
              have := lY (by simp)
              simp only [List.getLast_singleton] at this
              have := gX z hz
              omega)
          constructor
          · rintro ⟨m, hm, h⟩
            rcases List.mem_cons.1 hm with rfl | hm
            · have h : mn x.f0 y.f0 = t := h
              refine ⟨?_, by omega⟩
              rcases m3 with q | q
              · exact .inl ⟨x, by simp, by omega⟩
              · exact .inr ⟨y, by simp, by omega⟩
            · obtain ⟨k1, k2⟩ := key.1 ⟨m, hm, h⟩
              refine ⟨?_, k2⟩
              rcases k1 with ⟨c, hc, q⟩ | ⟨c, hc, q⟩
              · exact .inl ⟨c, step_sub c hc, q⟩
              · exact .inr ⟨c, step_sub c hc, q⟩
          · rintro ⟨k1, k2⟩
            by_cases q : t = mn x.f0 y.f0
            · exact ⟨jn x y, by simp, q.symm⟩
            · obtain ⟨m, hm, hq⟩ := key.2 ⟨by
                rcases k1 with ⟨c, hc, q'⟩ | ⟨c, hc, q'⟩
                · refine .inl ⟨c, ?_, q'⟩
                  split
                  · rcases List.mem_cons.1 hc with rfl | hc
                    · omega
                    · exact hc
                  · exact hc
                · refine .inr ⟨c, ?_, q'⟩
                  split
                  · rcases List.mem_cons.1 hc with rfl | hc
                    · omega
                    · exact hc
                  · exact hc, k2⟩
              exact ⟨m, by simp [hm], hq⟩
/-! #### the row of a top -/
theorem findF_at (t : Int) (x : S55) (X : List S55) : ∀ (P : List S55) (i : Nat), (∀ c ∈ P, c.f0 < t) → t ≤ x.f0 → findF t (P ++ x :: X) i = (i + P.length : Nat)
  | [], i, _, h => by simp [findF, h]
  | c :: P, i, h, h' => by
    have hc := h c (by simp)
    simp only [List.cons_append, findF]
    rw [if_neg (by omega), findF_at t x X P (i + 1) (fun z hz => h z (by simp [hz])) h']
    simp only [List.length_cons]; omega
theorem rd_mid (P X : List S55) (x : S55) : rd_T55 (P ++ x :: X) (P.length : Int) = x := by
  unfold rd_T55
  rw [List.getD_eq_getElem?_getD, show ((P.length : Int)).toNat = P.length by omega, List.getElem?_append_right (Nat.le_refl _)]
  simp
def rowJ (a b : List S55) (t : Int) : S55 := ⟨t, mn (rd_T55 a (findM a t)).f1 (rd_T55 b (findM b t)).f1, mx (rd_T55 a (findM a t)).f2 (rd_T55 b (findM b t)).f2⟩
theorem find_row {P X : List S55} {x : S55} {t : Int} (h : ∀ c ∈ P, c.f0 < t) (ht : t ≤ x.f0) : rd_T55 (P ++ x :: X) (findM (P ++ x :: X) t) = x := by
  unfold findM
  rw [findF_at t x X P 0 h ht, show ((0 + P.length : Nat) : Int) = (P.length : Int) by omega, rd_mid]
theorem mg_row (e : Int) (a b : List S55) : ∀ (n : Nat) (P X Q Y : List S55), a = P ++ X → b = Q ++ Y → Inc X → Inc Y → (∀ c ∈ P, (∀ z ∈ X, c.f0 < z.f0) ∧ ∀ z ∈ Y, c.f0 < z.f0) → (∀ c ∈ Q, (∀ z ∈ X, c.f0 < z.f0) ∧ ∀ z ∈ Y, c.f0 < z.f0) →
    ∀ m ∈ mg e n X Y, m = rowJ a b m.f0 := by
  intro n
  induction n with
  | zero => intro P X Q Y _ _ _ _ _ _ m hm; simp [mg] at hm
  | succ n ih =>
    intro P X Q Y ea eb iX iY hP hQ m hm
    cases X with
    | nil => simp [mg] at hm
    | cons x X =>
      cases Y with
      | nil => simp [mg] at hm
      | cons y Y =>
        obtain ⟨m1, m2, m3⟩ := mn_le x.f0 y.f0
        unfold mg at hm
        split at hm
        · simp at hm
        · rcases List.mem_cons.1 hm with rfl | hm
          · show jn x y = rowJ a b (mn x.f0 y.f0)
            unfold rowJ
            rw [ea, eb, find_row (P := P) (X := X) (fun c hc => ?_) m1, find_row (P := Q) (X := Y) (fun c hc => ?_) m2]
            · rfl
            · have h1 := (hQ c hc).1 x (by simp); have h2 := (hQ c hc).2 y (by simp); omega
            · have h1 := (hP c hc).1 x (by simp); have h2 := (hP c hc).2 y (by simp); omega
          · have gX := step_gt iX m1
            have gY := step_gt iY m2
            refine ih (if x.f0 = mn x.f0 y.f0 then P ++ [x] else P) (if x.f0 = mn x.f0 y.f0 then X else x :: X) (if y.f0 = mn x.f0 y.f0 then Q ++ [y] else Q) (if y.f0 = mn x.f0 y.f0 then Y else y :: Y) ?_ ?_ (step_inc iX) (step_inc iY) ?_ ?_ m hm
            · split <;> simp [ea]
            · split <;> simp [eb]
            · intro c hc
              have hc' : c ∈ P ∨ c.f0 = mn x.f0 y.f0 := by
                split at hc
                · rename_i q
                  rcases List.mem_append.1 hc with hc | hc
                  · exact .inl hc
                  · rw [List.mem_singleton.1 hc]; exact .inr q
                · exact .inl hc
              rcases hc' with hc | hc
              · exact ⟨fun z hz => (hP c hc).1 z (step_sub z hz), fun z hz => (hP c hc).2 z (step_sub z hz)⟩
              · rw [hc]; exact ⟨gX, gY⟩
            · intro c hc
              have hc' : c ∈ Q ∨ c.f0 = mn x.f0 y.f0 := by
                split at hc
                · rename_i q
                  rcases List.mem_append.1 hc with hc | hc
                  · exact .inl hc
                  · rw [List.mem_singleton.1 hc]; exact .inr q
                · exact .inl hc
              rcases hc' with hc | hc
              · exact ⟨fun z hz => (hQ c hc).1 z (step_sub z hz), fun z hz => (hQ c hc).2 z (step_sub z hz)⟩
              · rw [hc]; exact ⟨gX, gY⟩
def endJ (a b : List S55) : Int := mn (rd_T55 a ((a.length : Int) - 1)).f0 (rd_T55 b ((b.length : Int) - 1)).f0
def mgJ (a b : List S55) : List S55 := mg (endJ a b) (a.length + b.length) a b
def finJ (o : List S55) : List S55 × Int := if (o.length : Int) > 6 then ([], 3) else (o, 0)
def joinM (a b : List S55) : List S55 × Int := if profB a = true ∧ profB b = true then finJ (mgJ a b) else ([], 1)
theorem rd_last {l : List S55} (h : l ≠ []) : rd_T55 l ((l.length : Int) - 1) = l.getLast h := by
  have hl : 0 < l.length := List.length_pos_iff.2 h
  unfold rd_T55
  rw [List.getD_eq_getElem?_getD, show ((l.length : Int) - 1).toNat = l.length - 1 by omega, List.getElem?_eq_getElem (by omega), List.getLast_eq_getElem]
  rfl
theorem profB_inc {l : List S55} (h : profB l = true) : Inc l ∧ l ≠ [] ∧ l.length ≤ 6 := by
  unfold profB at h
  simp only [Bool.and_eq_true, decide_eq_true_eq] at h
  exact ⟨profL_pw l none h.2, by intro e; rw [e] at h; simp at h, h.1.2⟩
theorem tops_eq {a b : List S55} (ha : profB a = true) (hb : profB b = true) : topsF (endJ a b) (a ++ b) [] = (mgJ a b).map (fun c => c.f0) := by
  obtain ⟨a1, a2, a3⟩ := profB_inc ha
  obtain ⟨b1, b2, b3⟩ := profB_inc hb
  have hle := mn_le (rd_T55 a ((a.length : Int) - 1)).f0 (rd_T55 b ((b.length : Int) - 1)).f0
  refine pw_ext _ _ (topsF_pw _ _ _ List.Pairwise.nil) ?_ ?_
  · exact List.pairwise_map.2 (mg_pw _ _ _ _ a1 b1)
  · intro t
    rw [topsF_mem]
    have key := mg_mem (endJ a b) t (a.length + b.length) a b (Nat.le_refl _) a1 b1 (fun h => by rw [← rd_last h]; exact hle.1) (fun h => by rw [← rd_last h]; exact hle.2.1) (fun h => absurd h a2) (fun h => absurd h b2)
    rw [List.mem_map]
    constructor
    · rintro (h | ⟨⟨c, hc, h⟩, h'⟩)
      · simp at h
      · refine key.2 ⟨?_, h'⟩
        rcases List.mem_append.1 hc with hc | hc
        · exact .inl ⟨c, hc, h⟩
        · exact .inr ⟨c, hc, h⟩
    · intro h
      obtain ⟨k1, k2⟩ := key.1 h
      refine .inr ⟨?_, k2⟩
      rcases k1 with ⟨c, hc, q⟩ | ⟨c, hc, q⟩
      · exact ⟨c, by simp [hc], q⟩
      · exact ⟨c, by simp [hc], q⟩
theorem rows_eq {a b : List S55} (ha : profB a = true) (hb : profB b = true) : (topsF (endJ a b) (a ++ b) []).map (rowJ a b) = mgJ a b := by
  obtain ⟨a1, _, _⟩ := profB_inc ha
  obtain ⟨b1, _, _⟩ := profB_inc hb
  rw [tops_eq ha hb, List.map_map]
  conv => rhs; rw [← List.map_id (mgJ a b)]
  refine List.map_congr_left (fun m hm => ?_)
  exact (mg_row (endJ a b) a b _ [] a [] b rfl rfl a1 b1 (by simp) (by simp) m hm).symm
theorem findF_pos (t : Int) : ∀ (R : List S55) (i : Nat), (∃ c ∈ R, t ≤ c.f0) → 0 ≤ findF t R i
  | [], i, ⟨c, hc, _⟩ => by simp at hc
  | x :: R, i, ⟨c, hc, h⟩ => by
    unfold findF
    split
    · omega
    · rename_i g
      rcases List.mem_cons.1 hc with rfl | hc
      · exact absurd h g
      · exact findF_pos t R (i + 1) ⟨c, hc, h⟩
theorem mgJ_len {a b : List S55} (ha : profB a = true) (hb : profB b = true) : (mgJ a b).length ≤ 12 := by
  have h := topsF_len (endJ a b) (a ++ b) []
  rw [tops_eq ha hb, List.length_map, List.length_append] at h
  have h1 := (profB_inc ha).2.2
  have h2 := (profB_inc hb).2.2
  simp at h; omega
theorem spec_Join_l1 (a b : List S55) (ha : a.length ≤ 100) (hb : b.length ≤ 100) (T : List Int) (hT : T.length ≤ 100) : ∀ (R : List Int) (i : Nat) (out : List S55), T.drop i = R → out.length ≤ i → (∀ t ∈ R, 0 ≤ findM a t ∧ 0 ≤ findM b t) →
    Ev (fun k => spec_JoinProfiles.l1 k a b T out i) (out ++ R.map (rowJ a b), 0) := by
  intro R
  induction R with
  | nil =>
    intro i out h ho _
    have := drop_nil h
    exact Ev.step (fun k => spec_JoinProfiles.l1.eq_2 ..) (ev_neg (by omega) (ev_ret (by simp)))
  | cons t R ih =>
    intro i out h ho hf
    obtain ⟨h1, h2, h3⟩ := rd_drop h
    obtain ⟨f1, f2⟩ := hf t (by simp)
    have e1 : Ev (fun k => spec_l05Find.f k a t) (findM a t) := spec_l05Find_l0 a (by omega) t a 0 rfl
    have e2 : Ev (fun k => spec_l05Find.f k b t) (findM b t) := spec_l05Find_l0 b (by omega) t b 0 rfl
    have l1 := findM_lt a t
    have l2 := findM_lt b t
    have e := ih (i + 1) (out ++ [rowJ a b t]) h3 (by simp; omega) (fun s hs => hf s (by simp [hs]))
    refine Ev.step (fun k => spec_JoinProfiles.l1.eq_2 ..) (ev_pos (by omega) (ev_pos (by omega) ?_))
    rw [h2, w64 (n := (i : Int) + 1) (by omega) (by omega)]
    refine e1.bind (ev_pos f1 (ev_pos l1 (e2.bind (ev_pos f2 (ev_pos l2 (ev_pos (by omega) ?_))))))
    rw [List.append_assoc] at e
    exact e
def finT (a b : List S55) (T : List Int) : List S55 × Int := if (T.length : Int) > 6 then ([], 3) else (T.map (rowJ a b), 0)
theorem spec_Join_l0 (a b : List S55) (ha : a.length ≤ 6) (hb : b.length ≤ 6) (e : Int) (hf : ∀ t, t ≤ e → 0 ≤ findM a t ∧ 0 ≤ findM b t) (L : List S55) (hL : L.length ≤ 12) : ∀ (R : List S55) (i : Nat) (acc : List Int), L.drop i = R → acc.length ≤ i → (∀ t ∈ acc, t ≤ e) →
    Ev (fun k => spec_JoinProfiles.l0 k a b acc L e i) (finT a b (topsF e R acc)) := by
  intro R
  induction R with
  | nil =>
    intro i acc h ho hacc
    have := drop_nil h
    refine Ev.step (fun k => spec_JoinProfiles.l0.eq_2 ..) (ev_neg (by omega) ?_)
    rw [show topsF e [] acc = acc from rfl]
    unfold finT
    by_cases g : (acc.length : Int) > 6
    · exact ev_pos g (ev_ret (by rw [if_pos g]))
    · rw [if_neg g]
      refine ev_neg g ?_
      have := spec_Join_l1 a b (by omega) (by omega) acc (by omega) acc 0 [] rfl (by simp) (fun t ht => hf t (hacc t ht))
      rwa [List.nil_append] at this
  | cons c R ih =>
    intro i acc h ho hacc
    obtain ⟨h1, h2, h3⟩ := rdOf_drop (d := z55) h
    have h2' : rd_T55 L (i : Int) = c := h2
    refine Ev.step (fun k => spec_JoinProfiles.l0.eq_2 ..) (ev_pos (by omega) (ev_pos (by omega) ?_))
    rw [h2', w64 (n := (i : Int) + 1) (by omega) (by omega)]
    by_cases g : c.f0 ≤ e
    · rw [show topsF e (c :: R) acc = topsF e R (insU acc c.f0) from if_pos g]
      have := insU_len c.f0 acc
      refine ev_pos g ((spec_l03Insert_ev acc (by omega) c.f0).bind (ih (i + 1) (insU acc c.f0) h3 (by omega) (fun t ht => ?_)))
      rcases (insU_mem c.f0 t acc).1 ht with ht | ht
      · exact hacc t ht
      · omega
    · rw [show topsF e (c :: R) acc = topsF e R acc from if_neg g]
      exact ev_neg g (ih (i + 1) acc h3 (by omega) hacc)
theorem rd_lastM {l : List S55} (h : l ≠ []) : rd_T55 l ((l.length : Int) - 1) ∈ l := by rw [rd_last h]; exact List.getLast_mem h
theorem spec_JoinProfiles_ev (a b : List S55) (ha : a.length ≤ 4611686018427387904) (hb : b.length ≤ 4611686018427387904) : Ev (fun k => spec_JoinProfiles.f k a b) (joinM a b) := by
  have p1 := spec_IsProfile_ev a ha
  have p2 := spec_IsProfile_ev b hb
  unfold joinM
  by_cases g1 : profB a = true
  · by_cases g2 : profB b = true
    · rw [if_pos ⟨g1, g2⟩]
      obtain ⟨_, a2, a3⟩ := profB_inc g1
      obtain ⟨_, b2, b3⟩ := profB_inc g2
      have al : 0 < a.length := List.length_pos_iff.2 a2
      have bl : 0 < b.length := List.length_pos_iff.2 b2
      have hle := mn_le (rd_T55 a ((a.length : Int) - 1)).f0 (rd_T55 b ((b.length : Int) - 1)).f0
      refine p1.bind (ev_pos g1 (p2.bind (Ev.step (fun k => spec_JoinProfiles.j0.eq_2 ..) (ev_neg (by rw [g2]; decide) ?_))))
      rw [w64 (n := (a.length : Int) - 1) (by omega) (by omega), w64 (n := (b.length : Int) - 1) (by omega) (by omega)]
      refine ev_bind0 rfl (ev_pos (by simp; omega) (ev_bind0 rfl (ev_pos (by simp; omega) (ev_pos (by omega) (ev_pos (by omega) (ev_pos (by omega) (ev_pos (by omega) ?_)))))))
      have h := spec_Join_l0 a b a3 b3 (endJ a b) (fun t ht => ⟨findF_pos t a 0 ⟨_, rd_lastM a2, by unfold endJ at ht; omega⟩, findF_pos t b 0 ⟨_, rd_lastM b2, by unfold endJ at ht; omega⟩⟩) (a ++ b) (by rw [List.length_append]; omega) (a ++ b) 0 [] rfl (by simp) (by simp)
      have e2 : finJ (mgJ a b) = finT a b (topsF (endJ a b) (a ++ b) []) := by
        unfold finJ finT
        rw [rows_eq g1 g2, tops_eq g1 g2, List.length_map]
      rw [e2]
      exact h
    · rw [if_neg (fun h => g2 h.2)]
      have g2' : profB b = false := by simpa using g2
      exact p1.bind (ev_pos g1 (p2.bind (Ev.step (fun k => spec_JoinProfiles.j0.eq_2 ..) (ev_pos (by rw [g2']; rfl) (Ev.now _)))))
  · rw [if_neg (fun h => g1 h.1)]
    exact p1.bind (ev_neg g1 (Ev.step (fun k => spec_JoinProfiles.j0.eq_2 ..) (ev_pos rfl (Ev.now _))))
theorem finJ_end (k : Nat) (o : List S55) : (if (o.length : Int) > 6 then (some (([] : List S55), (3 : Int))) else (some (o, 0))) = some (finJ o) := by
  unfold finJ; split <;> rfl
theorem impl_Join_l0 (a b : List S55) (ha : a.length ≤ 100) (hb : b.length ≤ 100) (e : Int) : ∀ (n : Nat) (X Y : List S55) (i j : Nat) (out : List S55), a.drop i = X → b.drop j = Y → X.length + Y.length ≤ n → out.length + n ≤ 1000 →
    Ev (fun k => impl_JoinProfiles.l0 k a b e out i j) (finJ (out ++ mg e n X Y)) := by
  intro n
  induction n with
  | zero =>
    intro X Y i j out hX hY hn ho
    have eX : X = [] := List.length_eq_zero_iff.1 (by omega)
    subst eX
    have := drop_nil hX
    refine Ev.step (fun k => impl_JoinProfiles.l0.eq_2 ..) (ev_neg (by omega) (Ev.step (fun k => impl_JoinProfiles.j2.eq_2 ..) (ev_neg (by decide) ?_)))
    simp only [mg, List.append_nil]
    exact ev_const (finJ_end 0 out)
  | succ n ih =>
    intro X Y i j out hX hY hn ho
    cases X with
    | nil =>
      have := drop_nil hX
      refine Ev.step (fun k => impl_JoinProfiles.l0.eq_2 ..) (ev_neg (by omega) (Ev.step (fun k => impl_JoinProfiles.j2.eq_2 ..) (ev_neg (by decide) ?_)))
      rw [mg_nil1, List.append_nil]
      exact ev_const (finJ_end 0 out)
    | cons x X =>
      obtain ⟨x1, x2, x3⟩ := rdOf_drop (d := z55) hX
      have x2' : rd_T55 a (i : Int) = x := x2
      cases Y with
      | nil =>
        have := drop_nil hY
        refine Ev.step (fun k => impl_JoinProfiles.l0.eq_2 ..) (ev_pos (by omega) (Ev.step (fun k => impl_JoinProfiles.j2.eq_2 ..) (ev_neg (by simp; omega) ?_)))
        rw [mg_nil2, List.append_nil]
        exact ev_const (finJ_end 0 out)
      | cons y Y =>
        obtain ⟨y1, y2, y3⟩ := rdOf_drop (d := z55) hY
        have y2' : rd_T55 b (j : Int) = y := y2
        refine Ev.step (fun k => impl_JoinProfiles.l0.eq_2 ..) (ev_pos (by omega) (Ev.step (fun k => impl_JoinProfiles.j2.eq_2 ..) (ev_pos (by simp; omega) ?_)))
        refine ev_pos (by omega) (ev_pos (by omega) (ev_pos (by omega) (ev_pos (by omega) ?_)))
        rw [x2', y2', w64 (n := (i : Int) + 1) (by omega) (by omega), w64 (n := (j : Int) + 1) (by omega) (by omega)]
        have hl := step_lens (x := x) (y := y) (X := X) (Y := Y)
        simp only [List.length_cons] at hn
        simp only [mg]
        by_cases g : mn x.f0 y.f0 > e
        · rw [if_pos g, List.append_nil]
          exact ev_pos g (ev_const (finJ_end 0 out))
        · rw [if_neg g]
          refine ev_neg g (ev_pos (by omega) (ev_bind0 rfl ?_))
          have e1 : out ++ jn x y :: mg e n (if x.f0 = mn x.f0 y.f0 then X else x :: X) (if y.f0 = mn x.f0 y.f0 then Y else y :: Y) = (out ++ [jn x y]) ++ mg e n (if x.f0 = mn x.f0 y.f0 then X else x :: X) (if y.f0 = mn x.f0 y.f0 then Y else y :: Y) := by simp
          rw [e1]
          by_cases gx : x.f0 = mn x.f0 y.f0
          · refine ev_pos gx ?_
            by_cases gy : y.f0 = mn x.f0 y.f0
            · refine ev_pos gy ?_
              rw [if_pos gx, if_pos gy] at hl ⊢
              exact ih X Y (i + 1) (j + 1) (out ++ [jn x y]) x3 y3 (by omega) (by simp; omega)
            · refine ev_neg gy ?_
              rw [if_pos gx, if_neg gy] at hl ⊢
              exact ih X (y :: Y) (i + 1) j (out ++ [jn x y]) x3 hY (by omega) (by simp; omega)
          · refine ev_neg gx ?_
            by_cases gy : y.f0 = mn x.f0 y.f0
            · refine ev_pos gy ?_
              rw [if_neg gx, if_pos gy] at hl ⊢
              exact ih (x :: X) Y i (j + 1) (out ++ [jn x y]) hX y3 (by omega) (by simp; omega)
            · exact absurd (mn_le x.f0 y.f0).2.2 (by omega)
theorem impl_JoinProfiles_ev (a b : List S55) (ha : a.length ≤ 4611686018427387904) (hb : b.length ≤ 4611686018427387904) : Ev (fun k => impl_JoinProfiles.f k a b) (joinM a b) := by
  have p1 := impl_IsProfile_ev a ha
  have p2 := impl_IsProfile_ev b hb
  unfold joinM
  by_cases g1 : profB a = true
  · by_cases g2 : profB b = true
    · rw [if_pos ⟨g1, g2⟩]
      obtain ⟨_, a2, a3⟩ := profB_inc g1
      obtain ⟨_, b2, b3⟩ := profB_inc g2
      have al : 0 < a.length := List.length_pos_iff.2 a2
      have bl : 0 < b.length := List.length_pos_iff.2 b2
      refine p1.bind (ev_pos g1 (p2.bind (Ev.step (fun k => impl_JoinProfiles.j0.eq_2 ..) (ev_neg (by rw [g2]; decide) ?_))))
      rw [w64 (n := (a.length : Int) - 1) (by omega) (by omega), w64 (n := (b.length : Int) - 1) (by omega) (by omega)]
      refine ev_pos (by omega) (ev_pos (by omega) (ev_pos (by omega) (ev_pos (by omega) ?_)))
      have h := impl_Join_l0 a b (by omega) (by omega) (endJ a b) (a.length + b.length) a b 0 0 [] rfl rfl (Nat.le_refl _) (by simp; omega)
      rw [List.nil_append] at h
      exact h
    · rw [if_neg (fun h => g2 h.2)]
      have g2' : profB b = false := by simpa using g2
      exact p1.bind (ev_pos g1 (p2.bind (Ev.step (fun k => impl_JoinProfiles.j0.eq_2 ..) (ev_pos (by rw [g2']; rfl) (Ev.now _)))))
  · rw [if_neg (fun h => g1 h.1)]
    exact p1.bind (ev_neg g1 (Ev.step (fun k => impl_JoinProfiles.j0.eq_2 ..) (ev_pos rfl (Ev.now _))))
theorem joinM_len (a b : List S55) : (joinM a b).1.length ≤ 6 := by
  unfold joinM
  split
  · unfold finJ
    split
    · simp
    · dsimp only; omega
  · simp

def windM (l : List S55) (h : Int) : Int × Int × Int :=
  if profB l = true then (if 0 ≤ h ∧ h ≤ 1000000 then (if findM l h < 0 then (0, 0, 4) else ((rd_T55 l (findM l h)).f1, (rd_T55 l (findM l h)).f2, 0)) else (0, 0, 2)) else (0, 0, 1)
theorem take_last (l : List S55) {t : Int} (h0 : 0 ≤ t) (h1 : t < l.length) : rd_T55 (l.take (t + 1).toNat) (((l.take (t + 1).toNat).length : Int) - 1) = rd_T55 l t := by
  have hl : (l.take (t + 1).toNat).length = (t + 1).toNat := by rw [List.length_take]; omega
  rw [hl, show (((t + 1).toNat : Nat) : Int) - 1 = t by omega]
  unfold rd_T55
  simp only [List.getD_eq_getElem?_getD, List.getElem?_take]
  rw [if_pos (by omega)]
theorem within_f (h : Int) : impl_within.f h 0 1000000 = some (decide (0 ≤ h ∧ h ≤ 1000000)) := within_eq ..

/-! ### the widest and the common wind, calm -/
def wideF : List S55 → Int × Int → Int × Int
  | [], r => r
  | c :: R, r => wideF R (mn r.1 c.f1, mx r.2 c.f2)
def commF : List S55 → Int × Int → Int × Int
  | [], r => r
  | c :: R, r => commF R (mx r.1 c.f1, mn r.2 c.f2)
def partM (l : List S55) (h : Int) : List S55 := l.take (findM l h + 1).toNat
def codeM (l : List S55) (h : Int) : Int := if profB l = true then (if 0 ≤ h ∧ h ≤ 1000000 then (if findM l h < 0 then 4 else 0) else 2) else 1
def wideR (l : List S55) (h : Int) : Int × Int := wideF (partM l h) ((rd_T55 l 0).f1, (rd_T55 l 0).f2)
def commR (l : List S55) (h : Int) : Int × Int := commF (partM l h) ((rd_T55 l 0).f1, (rd_T55 l 0).f2)
def wideM (l : List S55) (h : Int) : Int × Int × Int := if codeM l h = 0 then ((wideR l h).1, (wideR l h).2, 0) else (0, 0, codeM l h)
def commM (l : List S55) (h : Int) : Int × Int × Int := if codeM l h = 0 then (if (commR l h).1 > (commR l h).2 then (0, 0, 5) else ((commR l h).1, (commR l h).2, 0)) else (0, 0, codeM l h)
def calmL (R : List S55) (m : Int) : Bool := decide (∀ c ∈ R, -m ≤ c.f1 ∧ c.f2 ≤ m)
def calmH (h m : Int) : Int := if 0 ≤ m ∧ m ≤ 50000 then h else -1
def calmM (l : List S55) (h m : Int) : Bool × Int := if codeM l (calmH h m) = 0 then (calmL (partM l h) m, 0) else (false, codeM l (calmH h m))
theorem codeM_zero {l : List S55} {h : Int} (e : codeM l h = 0) : profB l = true ∧ (0 ≤ h ∧ h ≤ 1000000) ∧ 0 ≤ findM l h := by
  unfold codeM at e
  split at e
  · split at e
    · split at e
      · omega
      · refine ⟨by assumption, by assumption, by omega⟩
    · omega
  · omega
theorem profB_len {l : List S55} (h : profB l = true) : 1 ≤ l.length ∧ l.length ≤ 6 := by
  unfold profB at h
  simp only [Bool.and_eq_true, decide_eq_true_eq] at h
  exact h.1
theorem part_drop {l R : List S55} {t : Int} {i : Nat} {c : S55} (h : (l.take (t + 1).toNat).drop i = c :: R) : (i : Int) ≤ t ∧ i < l.length ∧ rd_T55 l (i : Int) = c ∧ (l.take (t + 1).toNat).drop (i + 1) = R := by
  obtain ⟨h1, h2, h3⟩ := drop_cons h
  rw [List.length_take] at h1
  rw [List.getElem?_take, if_pos (by omega)] at h2
  refine ⟨by omega, by omega, ?_, h3⟩
  unfold rd_T55
  rw [Int.toNat_natCast, List.getD_eq_getElem?_getD, h2]; rfl
theorem wideF_calm (m : Int) : ∀ (R : List S55) (a b : Int), ((wideF R (a, b)).1 ≥ -m ∧ (wideF R (a, b)).2 ≤ m) ↔ ((a ≥ -m ∧ b ≤ m) ∧ ∀ c ∈ R, -m ≤ c.f1 ∧ c.f2 ≤ m)
  | [], a, b => by simp [wideF]
  | c :: R, a, b => by
    unfold wideF
    rw [wideF_calm m R]
    simp only [List.mem_cons, forall_eq_or_imp]
    unfold mn mx
    constructor
    · rintro ⟨⟨h1, h2⟩, h3⟩
      refine ⟨⟨?_, ?_⟩, ⟨?_, ?_⟩, h3⟩ <;> revert h1 h2 <;> (try dsimp only) <;> split <;> split <;> intros <;> omega
    · rintro ⟨⟨h1, h2⟩, ⟨h3, h4⟩, h5⟩
      refine ⟨⟨?_, ?_⟩, h5⟩ <;> (try dsimp only) <;> split <;> omega
theorem part_head {l : List S55} {h : Int} (h0 : 0 ≤ findM l h) (h1 : 1 ≤ l.length) : rd_T55 l 0 ∈ partM l h := by
  cases l with
  | nil => simp at h1
  | cons c R =>
    unfold partM
    obtain ⟨n, hn⟩ : ∃ n, (findM (c :: R) h + 1).toNat = n + 1 := ⟨(findM (c :: R) h).toNat, by omega⟩
    rw [hn]
    simp [rd_T55]
/-! ### what the program answers, over the print's own pure functions -/
theorem impl_layersTo_j0 (l : List S55) (hl : l.length ≤ 1000000000) (h : Int) : Ev (fun k => impl_layersTo.j0 k l h false) (if findM l h < 0 then ([], 4) else (partM l h, 0)) := by
  have hlt := findM_lt l h
  refine Ev.step (fun k => impl_layersTo.j0.eq_2 ..) (ev_neg (by decide) ((impl_layerOf_ev l (by omega) h).bind ?_))
  by_cases a : findM l h < 0
  · exact ev_pos a (ev_ret (by rw [if_pos a]))
  · refine ev_neg a ?_
    rw [if_neg a, w64 (n := findM l h + 1) (by omega) (by omega)]
    refine ev_bind0 rfl (ev_pos (by omega) (ev_pos (by omega) (ev_bind0 rfl (ev_pos ?_ (ev_ret ?_)))))
    · simp only [List.length_nil, List.length_take]; omega
    · rw [List.nil_append]; rfl
theorem impl_layersTo_ev (l : List S55) (hl : l.length ≤ 1000000000) (h : Int) : Ev (fun k => impl_layersTo.f k l h true) (if codeM l h = 0 then partM l h else [], codeM l h) := by
  refine (impl_IsProfile_ev l (by omega)).bind ?_
  unfold codeM
  by_cases a : profB l = true
  · refine ev_pos a (ev_bind0 (within_f h) ?_)
    simp only [a, if_true]
    by_cases b : 0 ≤ h ∧ h ≤ 1000000
    · refine ev_pos (by simpa using b) ?_
      simp only [b, and_self, if_true, Bool.not_true]
      have e := impl_layersTo_j0 l hl h
      by_cases c : findM l h < 0
      · simp only [c, if_true] at e ⊢; exact e
      · simp only [c, if_false, if_true] at e ⊢; exact e
    · refine ev_neg (by simpa using b) (Ev.step (fun k => impl_layersTo.j0.eq_2 ..) (ev_pos rfl (ev_ret ?_)))
      simp [b]
  · exact ev_neg a (ev_ret (by simp [a]))
theorem impl_layersTo_off (l : List S55) (hl : l.length ≤ 1000000000) (h : Int) : Ev (fun k => impl_layersTo.f k l h false) ([], if profB l = true then 2 else 1) := by
  refine (impl_IsProfile_ev l (by omega)).bind ?_
  by_cases a : profB l = true
  · refine ev_pos a (ev_bind0 (within_f h) ?_)
    have e : Ev (fun k => impl_layersTo.j0 k l h true) (([] : List S55), 2) := Ev.step (fun k => impl_layersTo.j0.eq_2 ..) (ev_pos rfl (Ev.now _))
    rw [if_pos a]
    by_cases b : 0 ≤ h ∧ h ≤ 1000000
    · exact ev_pos (by simpa using b) e
    · exact ev_neg (by simpa using b) e
  · exact ev_neg a (ev_ret (by rw [if_neg a]))
theorem part_len {l : List S55} {h : Int} (e : codeM l h = 0) : 1 ≤ (partM l h).length ∧ (partM l h).length ≤ l.length ∧ rd_T55 (partM l h) 0 = rd_T55 l 0 ∧ ((partM l h).length : Int) = findM l h + 1 := by
  obtain ⟨a, b, c⟩ := codeM_zero e
  have hlt := findM_lt l h
  have hl := profB_len a
  unfold partM
  refine ⟨by rw [List.length_take]; omega, by rw [List.length_take]; omega, ?_, by rw [List.length_take]; omega⟩
  cases l with
  | nil => simp at hl
  | cons x R =>
    obtain ⟨n, hn⟩ : ∃ n, (findM (x :: R) h + 1).toNat = n + 1 := ⟨(findM (x :: R) h).toNat, by omega⟩
    rw [hn]; rfl
theorem windM_eq (l : List S55) (h : Int) : windM l h = if codeM l h = 0 then ((rd_T55 l (findM l h)).f1, (rd_T55 l (findM l h)).f2, 0) else (0, 0, codeM l h) := by
  unfold windM codeM
  by_cases a : profB l = true
  · by_cases b : 0 ≤ h ∧ h ≤ 1000000
    · by_cases c : findM l h < 0
      · simp [a, b, c]
      · simp [a, b, c]
    · simp [a, b]
  · simp [a]
theorem impl_WindAt_ev (l : List S55) (hl : l.length ≤ 1000000000) (h : Int) : Ev (fun k => impl_WindAt.f k l h) (windM l h) := by
  refine (impl_layersTo_ev l hl h).bind ?_
  rw [windM_eq]
  by_cases e : codeM l h = 0
  · obtain ⟨p1, p2, p3, p4⟩ := part_len e
    obtain ⟨a, b, c⟩ := codeM_zero e
    simp only [e, if_true]
    rw [w64 (n := ((partM l h).length : Int) - 1) (by omega) (by omega)]
    refine ev_pos (by omega) (ev_pos (by omega) (ev_ret ?_))
    have := take_last l c (findM_lt l h)
    unfold partM
    rw [this]
  · simp only [e, if_false]
    exact Ev.now _
/-! ### the winds of a joined profile -/
theorem mg_lay (e : Int) : ∀ (n : Nat) (X Y : List S55), (∀ c ∈ X, layB c = true) → (∀ c ∈ Y, layB c = true) → ∀ m ∈ mg e n X Y, layB m = true
  | 0, _, _, _, _, m, hm => by simp [mg] at hm
  | _ + 1, [], _, _, _, m, hm => by simp [mg] at hm
  | _ + 1, _ :: _, [], _, _, m, hm => by simp [mg] at hm
  | n + 1, x :: X, y :: Y, hX, hY, m, hm => by
    unfold mg at hm
    split at hm
    · simp at hm
    · rcases List.mem_cons.1 hm with rfl | hm
      · have h1 := hX x (by simp)
        have h2 := hY y (by simp)
        unfold layB at h1 h2 ⊢
        simp only [Bool.and_eq_true, decide_eq_true_eq] at h1 h2 ⊢
        unfold jn mn mx
        dsimp only
        refine ⟨?_, ?_, ?_⟩
        · split <;> omega
        · split <;> omega
        · split <;> split <;> omega
      · exact mg_lay e n _ _ (fun z hz => hX z (step_sub z hz)) (fun z hz => hY z (step_sub z hz)) m hm
theorem profL_lay : ∀ (R : List S55) (p : Option S55), profL p R = true → ∀ c ∈ R, layB c = true
  | [], _, _, c, hc => by simp at hc
  | x :: R, p, h, c, hc => by
    rcases List.mem_cons.1 hc with rfl | hc
    · cases p <;> simp only [profL, Bool.and_eq_true] at h <;> exact h.1
    · exact profL_lay R (some x) (profL_tail h) c hc
theorem profL_of : ∀ (l : List S55) (p : Option S55), (∀ c ∈ l, layB c = true) → Inc l → (∀ q, p = some q → ∀ c ∈ l, q.f0 < c.f0) → profL p l = true
  | [], p, _, _, _ => by cases p <;> rfl
  | x :: R, p, h, hi, hq => by
    have hx := h x (by simp)
    have hr := profL_of R (some x) (fun c hc => h c (by simp [hc])) (List.pairwise_cons.1 hi).2 (fun q e c hc => by obtain rfl := Option.some.inj e; exact (List.pairwise_cons.1 hi).1 c hc)
    cases p with
    | none => simp [profL, hx, hr]
    | some q =>
      have := hq q rfl x (by simp)
      simp [profL, hx, hr, this]
theorem profB_lay {l : List S55} (h : profB l = true) : ∀ c ∈ l, layB c = true := by
  unfold profB at h
  simp only [Bool.and_eq_true, decide_eq_true_eq] at h
  exact profL_lay l none h.2
theorem findF_eq {h t : Int} : ∀ (R : List S55) (i : Nat), (∀ c ∈ R, h ≤ c.f0 ↔ t ≤ c.f0) → findF h R i = findF t R i
  | [], _, _ => rfl
  | c :: R, i, e => by
    have hc := e c (by simp)
    have hr := findF_eq R (i + 1) (fun z hz => e z (by simp [hz]))
    unfold findF
    rw [hr]
    by_cases g : h ≤ c.f0
    · rw [if_pos g, if_pos (hc.1 g)]
    · rw [if_neg g, if_neg (fun k => g (hc.2 k))]
theorem find_split (h : Int) : ∀ (R : List S55) (i : Nat), 0 ≤ findF h R i → ∃ P x S, R = P ++ x :: S ∧ (∀ c ∈ P, c.f0 < h) ∧ h ≤ x.f0 ∧ findF h R i = (i + P.length : Nat)
  | [], i, h0 => by unfold findF at h0; omega
  | c :: R, i, h0 => by
    unfold findF at h0 ⊢
    by_cases g : h ≤ c.f0
    · exact ⟨[], c, R, rfl, by simp, g, by rw [if_pos g]; simp⟩
    · rw [if_neg g] at h0 ⊢
      obtain ⟨P, x, S, e, h1, h2, h3⟩ := find_split h R (i + 1) h0
      refine ⟨c :: P, x, S, by rw [e]; rfl, ?_, h2, by rw [h3]; simp only [List.length_cons]; omega⟩
      intro z hz
      rcases List.mem_cons.1 hz with rfl | hz
      · omega
      · exact h1 z hz
theorem mgJ_key {a b : List S55} (ha : profB a = true) (hb : profB b = true) (t : Int) : (∃ m ∈ mgJ a b, m.f0 = t) ↔ ((∃ c ∈ a, c.f0 = t) ∨ (∃ c ∈ b, c.f0 = t)) ∧ t ≤ endJ a b := by
  obtain ⟨a1, a2, _⟩ := profB_inc ha
  obtain ⟨b1, b2, _⟩ := profB_inc hb
  have hle := mn_le (rd_T55 a ((a.length : Int) - 1)).f0 (rd_T55 b ((b.length : Int) - 1)).f0
  exact mg_mem (endJ a b) t (a.length + b.length) a b (Nat.le_refl _) a1 b1 (fun h => by rw [← rd_last h]; exact hle.1) (fun h => by rw [← rd_last h]; exact hle.2.1) (fun h => absurd h a2) (fun h => absurd h b2)
theorem mgJ_ne {a b : List S55} (ha : profB a = true) (hb : profB b = true) : mgJ a b ≠ [] := by
  obtain ⟨_, a2, _⟩ := profB_inc ha
  obtain ⟨_, b2, _⟩ := profB_inc hb
  have hle := (mn_le (rd_T55 a ((a.length : Int) - 1)).f0 (rd_T55 b ((b.length : Int) - 1)).f0).2.2
  have key := (mgJ_key ha hb (endJ a b)).2 ⟨by
    rcases hle with h | h
    · exact .inl ⟨_, rd_lastM a2, h.symm⟩
    · exact .inr ⟨_, rd_lastM b2, h.symm⟩, Int.le_refl _⟩
  obtain ⟨m, hm, _⟩ := key
  intro h
  rw [h] at hm; simp at hm
theorem mgJ_prof {a b : List S55} (ha : profB a = true) (hb : profB b = true) (hl : (mgJ a b).length ≤ 6) : profB (mgJ a b) = true := by
  obtain ⟨a1, _, _⟩ := profB_inc ha
  obtain ⟨b1, _, _⟩ := profB_inc hb
  have h1 := profL_of (mgJ a b) none (mg_lay _ _ a b (profB_lay ha) (profB_lay hb)) (mg_pw _ _ a b a1 b1) (fun q e => by cases e)
  have h2 := List.length_pos_iff.2 (mgJ_ne ha hb)
  unfold profB
  simp only [Bool.and_eq_true, decide_eq_true_eq]
  exact ⟨by omega, h1⟩
theorem wind_ok {l : List S55} {h : Int} (hp : profB l = true) (h0 : 0 ≤ h) (hx : ∃ c ∈ l, h ≤ c.f0) : windM l h = ((rd_T55 l (findM l h)).f1, (rd_T55 l (findM l h)).f2, 0) ∧ 0 ≤ findM l h := by
  have hf : 0 ≤ findM l h := findF_pos h l 0 hx
  obtain ⟨c, hc, hh⟩ := hx
  have hl := profB_lay hp c hc
  unfold layB at hl
  simp only [Bool.and_eq_true, decide_eq_true_eq] at hl
  have e : codeM l h = 0 := by
    unfold codeM
    rw [if_pos hp, if_pos (by omega), if_neg (by omega)]
  rw [windM_eq, if_pos e]
  exact ⟨rfl, hf⟩
theorem join_wind {a b : List S55} (ha : profB a = true) (hb : profB b = true) (hl : (mgJ a b).length ≤ 6) {h : Int} (h0 : 0 ≤ h) (h1 : h ≤ (rd_T55 (mgJ a b) (((mgJ a b).length : Int) - 1)).f0) :
    ∃ c d e f, windM a h = (c, d, 0) ∧ windM b h = (e, f, 0) ∧ windM (mgJ a b) h = (mn c e, mx d f, 0) := by
  obtain ⟨a1, a2, _⟩ := profB_inc ha
  obtain ⟨b1, b2, _⟩ := profB_inc hb
  have hle := mn_le (rd_T55 a ((a.length : Int) - 1)).f0 (rd_T55 b ((b.length : Int) - 1)).f0
  have hr := mgJ_prof ha hb hl
  obtain ⟨r1, r2, _⟩ := profB_inc hr
  have hlast := rd_lastM r2
  obtain ⟨hw, hf⟩ := wind_ok hr h0 ⟨_, hlast, h1⟩
  obtain ⟨P, x, S, er, p1, p2, p3⟩ := find_split h (mgJ a b) 0 hf
  have hxm : x ∈ mgJ a b := by rw [er]; simp
  have hxr : rd_T55 (mgJ a b) (findM (mgJ a b) h) = x := by
    unfold findM
    rw [p3, show ((0 + P.length : Nat) : Int) = (P.length : Int) by omega]
    conv => lhs; rw [er]
    exact rd_mid P S x
  have hrow := mg_row (endJ a b) a b _ [] a [] b rfl rfl a1 b1 (by simp) (by simp) x hxm
  have hxe := ((mgJ_key ha hb x.f0).1 ⟨x, hxm, rfl⟩).2
  have hsep : ∀ c : S55, (∃ m ∈ mgJ a b, m.f0 = c.f0) ∨ endJ a b < c.f0 → (h ≤ c.f0 ↔ x.f0 ≤ c.f0) := by
    intro c hc
    constructor
    · intro hh
      rcases hc with ⟨m, hm, e⟩ | hc
      · rw [er] at hm r1
        rcases List.mem_append.1 hm with hm | hm
        · have := p1 m hm; omega
        · rcases List.mem_cons.1 hm with rfl | hm
          · omega
          · have := (List.pairwise_cons.1 (List.pairwise_append.1 r1).2.1).1 m hm
            omega
      · omega
    · intro hh; omega
  have fa : findM a h = findM a x.f0 := findF_eq a 0 (fun c hc => hsep c (by
    by_cases q : c.f0 ≤ endJ a b
    · exact .inl ((mgJ_key ha hb c.f0).2 ⟨.inl ⟨c, hc, rfl⟩, q⟩)
    · exact .inr (by omega)))
  have fb : findM b h = findM b x.f0 := findF_eq b 0 (fun c hc => hsep c (by
    by_cases q : c.f0 ≤ endJ a b
    · exact .inl ((mgJ_key ha hb c.f0).2 ⟨.inr ⟨c, hc, rfl⟩, q⟩)
    · exact .inr (by omega)))
  obtain ⟨wa, _⟩ := wind_ok ha h0 ⟨_, rd_lastM a2, by unfold endJ at hxe; omega⟩
  obtain ⟨wb, _⟩ := wind_ok hb h0 ⟨_, rd_lastM b2, by unfold endJ at hxe; omega⟩
  refine ⟨_, _, _, _, wa, wb, ?_⟩
  rw [hw, hxr, fa, fb]
  conv => lhs; rw [hrow]
  rfl

/-! ### numbers that follow from a code -/
def Code (c : List Int) : Prop := (∀ x ∈ c, 0 ≤ x ∧ x ≤ 255) ∧ c.length ≤ 5000
def Src (c : List Int) (a s : Int) : Prop := Code c ∧ (0 ≤ a ∧ a ≤ c.length) ∧ 0 ≤ s ∧ s < 2147483647
theorem rd_code {c : List Int} (h : Code c) {i : Int} (h0 : 0 ≤ i) (h1 : i < c.length) : 0 ≤ rd c i ∧ rd c i ≤ 255 := by
  unfold rd
  have hi : i.toNat < c.length := by omega
  rw [List.getD_eq_getElem?_getD, List.getElem?_eq_getElem hi]
  exact h.1 _ (List.getElem_mem hi)
theorem tmod_nn {a b : Int} (ha : 0 ≤ a) : Int.tmod a b = a % b := Int.tmod_eq_emod_of_nonneg ha
theorem tmod_in {a b : Int} (ha : 0 ≤ a) (hb : 0 < b) : 0 ≤ Int.tmod a b ∧ Int.tmod a b < b := by
  rw [tmod_nn ha]
  exact ⟨Int.emod_nonneg a (by omega), Int.emod_lt_of_pos a hb⟩
theorem l01Next_some {c : List Int} {a s n : Int} (h : Src c a s) (hn : n ≤ 4611686018427387904) : ∃ x a' s', spec_l01Next.f c a s n = some (x, a', s') ∧ Src c a' s' ∧ 0 ≤ x ∧ (1 ≤ n → x < n) ∧ (n ≤ 1 → x = 0) := by
  obtain ⟨hc, ⟨a0, a1⟩, s0, s1⟩ := h
  have hl := hc.2
  unfold spec_l01Next.f
  by_cases g : n ≤ 1
  · rw [if_pos g]
    exact ⟨0, a, s, rfl, ⟨hc, ⟨a0, a1⟩, s0, s1⟩, by omega, by omega, by omega⟩
  · rw [if_neg g]
    have e1 : wrap64 ((wrap64 (s * 48271)) + 29) = s * 48271 + 29 := by
      rw [w64 (n := s * 48271) (by omega) (by omega), w64 (by omega) (by omega)]
    have e2 := tmod_in (a := s * 48271 + 29) (b := 2147483647) (by omega) (by omega)
    rw [e1]
    generalize Int.tmod (s * 48271 + 29) 2147483647 = s' at *
    have e3 : wrap64 (Int.tdiv s' 31) = s' / 31 := by rw [Int.tdiv_eq_ediv_of_nonneg (by omega), w64 (by omega) (by omega)]
    rw [e3]
    by_cases g1 : a < (c.length : Int)
    · have hr := rd_code hc a0 g1
      rw [if_pos g1, if_pos a0, w64 (n := a + 1) (by omega) (by omega), w64 (n := a + 1 - 1) (by omega) (by omega), show a + 1 - 1 = a by omega, w64 (n := rd c a) (by omega) (by omega), w64 (n := s' / 31 + rd c a) (by omega) (by omega)]
      have t1 := tmod_in (a := rd c a) (b := n) (by omega) (by omega)
      have t2 := tmod_in (a := s' / 31 + rd c a) (b := n) (by omega) (by omega)
      have fin : Src c (a + 1) s' := ⟨hc, ⟨by omega, by omega⟩, e2⟩
      by_cases g2 : n ≤ 256
      · rw [if_pos g2]
        by_cases g3 : Int.tmod (a + 1) 2 = 0
        · rw [if_pos g3, if_pos a0, if_pos g1, if_neg (by omega)]
          exact ⟨_, _, _, rfl, fin, t1.1, fun _ => t1.2, by omega⟩
        · rw [if_neg g3, if_neg (by omega)]
          exact ⟨_, _, _, rfl, fin, t2.1, fun _ => t2.2, by omega⟩
      · rw [if_neg g2, if_neg (by omega)]
        exact ⟨_, _, _, rfl, fin, t2.1, fun _ => t2.2, by omega⟩
    · have t2 := tmod_in (a := s' / 31) (b := n) (by omega) (by omega)
      rw [if_neg g1, if_neg (by omega)]
      exact ⟨_, _, _, rfl, ⟨hc, ⟨a0, a1⟩, e2⟩, t2.1, fun _ => t2.2, by omega⟩
theorem l01Pick_some {c : List Int} {a s : Int} (h : Src c a s) {l : List Int} (hl : 1 ≤ l.length) (hl' : l.length ≤ 1000) : ∃ x a' s', spec_l01Pick.f c a s l = some (x, a', s') ∧ Src c a' s' ∧ x ∈ l := by
  obtain ⟨x, a', s', e, h', x0, x1, _⟩ := l01Next_some h (n := (l.length : Int)) (by omega)
  have x2 := x1 (by omega)
  unfold spec_l01Pick.f
  rw [e, Option.bind_some, if_pos x0, if_pos x2]
  refine ⟨_, _, _, rfl, h', ?_⟩
  unfold rd
  have hi : x.toNat < l.length := by omega
  rw [List.getD_eq_getElem?_getD, List.getElem?_eq_getElem hi]
  exact List.getElem_mem hi
theorem l01From_l0 {c : List Int} (hc : Code c) : ∀ (d : Nat) (i : Int) (s : Int), 64 - i = d → 0 ≤ i → 0 ≤ s → s < 2147483647 → ∃ s', Ev (fun k => spec_l01From.l0 k c i c 0 s) (c, 0, s') ∧ Src c 0 s' := by
  intro d
  have hl := hc.2
  induction d with
  | zero =>
    intro i s hd h0 s0 s1
    refine ⟨s, Ev.step (fun k => spec_l01From.l0.eq_2 ..) ?_, hc, ⟨by omega, by omega⟩, s0, s1⟩
    by_cases g : i < (c.length : Int)
    · exact ev_pos g (ev_neg (by omega) (Ev.now _))
    · exact ev_neg g (Ev.now _)
  | succ d ih =>
    intro i s hd h0 s0 s1
    by_cases g : i < (c.length : Int)
    · have hr := rd_code hc h0 g
      have e1 : wrap64 ((wrap64 (s * 83)) + (wrap64 (rd c i))) = s * 83 + rd c i := by
        rw [w64 (n := s * 83) (by omega) (by omega), w64 (n := rd c i) (by omega) (by omega), w64 (by omega) (by omega)]
      have e2 := tmod_in (a := s * 83 + rd c i) (b := 2147483647) (by omega) (by omega)
      obtain ⟨s', hs, h⟩ := ih (i + 1) (Int.tmod (s * 83 + rd c i) 2147483647) (by omega) (by omega) e2.1 e2.2
      refine ⟨s', Ev.step (fun k => spec_l01From.l0.eq_2 ..) (ev_pos g (ev_pos (by omega) (ev_pos h0 ?_))), h⟩
      rw [e1, w64 (by omega) (by omega)]
      exact hs
    · exact ⟨s, Ev.step (fun k => spec_l01From.l0.eq_2 ..) (ev_neg g (Ev.now _)), hc, ⟨by omega, by omega⟩, s0, s1⟩
theorem l01From_ev {c : List Int} (hc : Code c) : ∃ s, Ev (fun k => spec_l01From.f k c) (c, 0, s) ∧ Src c 0 s :=
  l01From_l0 hc 64 0 61043 (by omega) (by omega) (by omega) (by omega)
/-! ### dice -/
def Dice (c : List Int) (i h : Int) : Prop := Code c ∧ (0 ≤ i ∧ i ≤ c.length) ∧ 0 ≤ h ∧ h ≤ 18446744073709551615
theorem u64w (n : Int) : 0 ≤ IntKind.u64.wrap n ∧ IntKind.u64.wrap n ≤ 18446744073709551615 := by
  have e : IntKind.u64.wrap n = n % 18446744073709551616 := by rfl
  omega
theorem roll_l0 {c : List Int} (hc : Code c) : ∀ (d : Nat) (i : Int) (h : Int), (c.length : Int) - i = d → 0 ≤ i → 0 ≤ h → h ≤ 18446744073709551615 → ∃ h', Ev (fun k => laws_roll.l0 k c i c 0 h) (c, 0, h') ∧ Dice c 0 h' := by
  intro d
  have hl := hc.2
  induction d with
  | zero =>
    intro i h hd h0 s0 s1
    exact ⟨h, Ev.step (fun k => laws_roll.l0.eq_2 ..) (ev_neg (by omega) (Ev.now _)), hc, ⟨by omega, by omega⟩, s0, s1⟩
  | succ d ih =>
    intro i h hd h0 s0 s1
    have e := u64w ((IntKind.u64.wrap ((IntKind.u64.wrap (h * 1099511628211)) + (IntKind.u64.wrap (rd c i)))) + 3)
    obtain ⟨h', hs, k⟩ := ih (i + 1) (IntKind.u64.wrap ((IntKind.u64.wrap ((IntKind.u64.wrap (h * 1099511628211)) + (IntKind.u64.wrap (rd c i)))) + 3)) (by omega) (by omega) e.1 e.2
    refine ⟨h', Ev.step (fun k => laws_roll.l0.eq_2 ..) (ev_pos (by omega) (ev_pos h0 ?_)), k⟩
    rw [w64 (by omega) (by omega)]
    exact hs
theorem roll_ev {c : List Int} (hc : Code c) (n : Int) : ∃ h, Ev (fun k => laws_roll.f k c n) (c, 0, h) ∧ Dice c 0 h := by
  have e := u64w ((IntKind.u64.wrap (n * 7919)) + (IntKind.u64.wrap ((c.length : Int))))
  exact roll_l0 hc c.length 0 _ (by omega) (by omega) e.1 e.2
theorem below_some {c : List Int} {i h n : Int} (hd : Dice c i h) (hn : 1 ≤ n) : ∃ x i' h', laws_dice_below.f c i h n = some (x, i', h') ∧ Dice c i' h' ∧ 0 ≤ x ∧ x < n := by
  obtain ⟨hc, ⟨i0, i1⟩, h0, h1⟩ := hd
  have hl := hc.2
  unfold laws_dice_below.f
  have e := u64w ((IntKind.u64.wrap (h * 6364136223846793005)) + 1442695040888963407)
  generalize IntKind.u64.wrap ((IntKind.u64.wrap (h * 6364136223846793005)) + 1442695040888963407) = g at *
  have p32 : (2 : Int) ^ 32 = 4294967296 := by decide
  have wr : ∀ z : Int, 0 ≤ z → z < 2 ^ 32 → IntKind.u64.wrap z = z := fun z z0 z1 => by
    have e : IntKind.u64.wrap z = z % 18446744073709551616 := rfl
    omega
  have hg : g / 8589934592 < 2 ^ 32 := by omega
  have m : Go.bits .and .u64 (g / 8589934592) 16777215 = g / 8589934592 % 16777216 := bits_mask .u64 32 (by decide) wr 24 (by decide) (g / 8589934592) (by omega) hg
  rw [m]
  by_cases a : i < (c.length : Int)
  · have hr := rd_code hc i0 a
    have t := tmod_in (a := g / 8589934592 % 16777216 + rd c i) (b := n) (by omega) (by omega)
    rw [if_pos a, if_pos i0, if_neg (by omega), w64 (n := g / 8589934592 % 16777216) (by omega) (by omega), w64 (n := rd c i) (by omega) (by omega), w64 (n := g / 8589934592 % 16777216 + rd c i) (by omega) (by omega), w64 (n := i + 1) (by omega) (by omega)]
    exact ⟨_, _, _, rfl, ⟨hc, ⟨by omega, by omega⟩, e⟩, t.1, t.2⟩
  · have t := tmod_in (a := g / 8589934592 % 16777216) (b := n) (by omega) (by omega)
    rw [if_neg a, if_neg (by omega), w64 (n := g / 8589934592 % 16777216) (by omega) (by omega)]
    exact ⟨_, _, _, rfl, ⟨hc, ⟨i0, i1⟩, e⟩, t.1, t.2⟩
theorem big_false {c : List Int} (h : ¬ (c.length : Int) > 4096) : laws_big.f c = some false := by unfold laws_big.f; simp; omega
theorem big_true {c : List Int} (h : (c.length : Int) > 4096) : laws_big.f c = some true := by unfold laws_big.f; simp; omega
theorem code_of {c : List Int} (h : ∀ x ∈ c, (Lit.int .u8 x).wf = true) (hl : ¬ (c.length : Int) > 4096) : Code c := ⟨fun x hx => bd8 (h x hx), by omega⟩

/-! ### drawn profiles -/
theorem l05Good_l0 {c : List Int} : ∀ (d : Nat) (out : List S55) (x a s : Int), Src c a s → out.length + d ≤ 10 → ∃ l a' s', Ev (fun k => spec_l05Good.l0 k out x (d : Int) c a s) (l, a', s') ∧ Src c a' s' ∧ l.length = out.length + d := by
  intro d
  induction d with
  | zero =>
    intro out x a s h ho
    exact ⟨_, _, _, Ev.step (fun k => spec_l05Good.l0.eq_2 ..) (ev_neg (by omega) (Ev.now _)), h, rfl⟩
  | succ d ih =>
    intro out x a s h ho
    obtain ⟨x0, a0, s0, e0, h0, _⟩ := l01Next_some h (n := 100000) (by omega)
    obtain ⟨x1, a1, s1, e1, h1, _⟩ := l01Next_some h0 (n := 12001) (by omega)
    obtain ⟨x2, a2, s2, e2, h2, _⟩ := l01Next_some h1 (n := 6000) (by omega)
    obtain ⟨l, a', s', e, h', hl⟩ := ih (out ++ [(⟨wrap64 ((wrap64 (x + 1)) + x0), wrap64 (x1 - 6000), wrap64 ((wrap64 (x1 - 6000)) + x2)⟩ : S55)]) (wrap64 ((wrap64 (x + 1)) + x0)) a2 s2 h2 (by simp; omega)
    refine ⟨l, a', s', Ev.step (fun k => spec_l05Good.l0.eq_2 ..) (ev_pos (by omega) (ev_bind0 e0 (ev_bind0 e1 (ev_bind0 e2 (ev_pos (by omega) ?_))))), h', by rw [hl]; simp; omega⟩
    rw [w64 (n := ((d + 1 : Nat) : Int) - 1) (by omega) (by omega), show ((d + 1 : Nat) : Int) - 1 = (d : Int) by omega]
    exact e
theorem l05Good_ev {c : List Int} {a s : Int} (h : Src c a s) : ∃ l a' s', Ev (fun k => spec_l05Good.f k c a s) (l, a', s') ∧ Src c a' s' ∧ 1 ≤ l.length ∧ l.length ≤ 4 := by
  obtain ⟨x0, a0, s0, e0, h0, b0, c0, _⟩ := l01Next_some h (n := 4) (by omega)
  have c0 := c0 (by omega)
  obtain ⟨l, a', s', e, h', hl⟩ := l05Good_l0 (1 + x0).toNat [] 0 a0 s0 h0 (by simp; omega)
  refine ⟨l, a', s', ev_bind0 e0 ?_, h', by rw [hl]; simp; omega, by rw [hl]; simp; omega⟩
  dsimp only
  rw [w64 (n := 1 + x0) (by omega) (by omega), show 1 + x0 = (((1 + x0).toNat : Nat) : Int) by omega]
  exact e
theorem l05Draw_l0 {c : List Int} : ∀ (d : Nat) (out : List S55) (x a s : Int), Src c a s → out.length + d = 8 → ∃ l a' s', Ev (fun k => spec_l05Draw.l0 k out x c a s) (l, a', s') ∧ Src c a' s' ∧ l.length ≤ 8 := by
  intro d
  induction d with
  | zero =>
    intro out x a s h ho
    obtain ⟨x0, a0, s0, e0, h0, b0, c0, _⟩ := l01Next_some h (n := 2) (by omega)
    have c0 := c0 (by omega)
    refine ⟨_, _, _, Ev.step (fun k => spec_l05Draw.l0.eq_2 ..) (ev_bind0 e0 (ev_neg ?_ (Ev.now _))), h0, by omega⟩
    dsimp only
    rw [w64 (n := 6 + x0) (by omega) (by omega)]; omega
  | succ d ih =>
    intro out x a s h ho
    obtain ⟨x0, a0, s0, e0, h0, b0, c0, _⟩ := l01Next_some h (n := 2) (by omega)
    have c0 := c0 (by omega)
    by_cases g : (out.length : Int) < 6 + x0
    · obtain ⟨l, a', s', e, h', hl⟩ := ih (out ++ [(⟨x, (-5), 5⟩ : S55)]) (wrap64 (x + 1)) a0 s0 h0 (by simp; omega)
      refine ⟨l, a', s', Ev.step (fun k => spec_l05Draw.l0.eq_2 ..) (ev_bind0 e0 (ev_pos ?_ (ev_pos (by omega) e))), h', hl⟩
      dsimp only
      rw [w64 (n := 6 + x0) (by omega) (by omega)]; omega
    · refine ⟨_, _, _, Ev.step (fun k => spec_l05Draw.l0.eq_2 ..) (ev_bind0 e0 (ev_neg ?_ (Ev.now _))), h0, by omega⟩
      dsimp only
      rw [w64 (n := 6 + x0) (by omega) (by omega)]; omega
theorem l05Draw_ev {c : List Int} {a s : Int} (h : Src c a s) : ∃ l a' s', Ev (fun k => spec_l05Draw.f k c a s) (l, a', s') ∧ Src c a' s' ∧ l.length ≤ 8 := by
  obtain ⟨l, a0, s0, e0, h0, l1, l2⟩ := l05Good_ev h
  obtain ⟨x1, a1, s1, e1, h1, b1, c1, _⟩ := l01Next_some h0 (n := (l.length : Int)) (by omega)
  have c1 := c1 (by omega)
  obtain ⟨x2, a2, s2, e2, h2, _⟩ := l01Next_some h1 (n := 40) (by omega)
  by_cases g0 : x2 = 0
  · obtain ⟨x3, a3, s3, e3, h3, _⟩ := l01Pick_some h2 (l := [wrap64 (((rd_T55 l x1).f1) - 1), 50000, 50001]) (by simp) (by simp)
    exact ⟨_, _, _, e0.bind (ev_bind0 e1 (ev_bind0 e2 (ev_pos g0 (ev_pos b1 (ev_pos c1 (ev_bind0 e3 (Ev.now _))))))), h3, by simp; omega⟩
  · by_cases g1 : x2 = 1
    · obtain ⟨x3, a3, s3, e3, h3, _⟩ := l01Pick_some h2 (l := [0, 1, 1000000, 1000001]) (by simp) (by simp)
      exact ⟨_, _, _, e0.bind (ev_bind0 e1 (ev_bind0 e2 (ev_neg g0 (ev_pos g1 (ev_bind0 e3 (ev_pos b1 (ev_pos c1 (Ev.now _)))))))), h3, by simp; omega⟩
    · by_cases g2 : x2 = 2
      · obtain ⟨m, a3, s3, e3, h3, hm⟩ := l05Draw_l0 (8 - l.length) l 500000 a2 s2 h2 (by omega)
        exact ⟨m, a3, s3, e0.bind (ev_bind0 e1 (ev_bind0 e2 (ev_neg g0 (ev_neg g1 (ev_pos g2 e3))))), h3, hm⟩
      · by_cases g3 : x2 = 3
        · exact ⟨_, _, _, e0.bind (ev_bind0 e1 (ev_bind0 e2 (ev_neg g0 (ev_neg g1 (ev_neg g2 (ev_pos g3 (ev_pos (by omega) (Ev.now _)))))))), h2, by simp⟩
        · exact ⟨_, _, _, e0.bind (ev_bind0 e1 (ev_bind0 e2 (ev_neg g0 (ev_neg g1 (ev_neg g2 (ev_neg g3 (Ev.now _))))))), h2, by show l.length ≤ 8; omega⟩
open Go.Proofs.YtidibjmckgbpbaaW.PrintMore
attribute [local go_sem] max2_int min2_int max_two min_two max_three min_three max_four min_four
theorem drawn_below {w w' : World} (h : Drawn0 w w') : Below w.heap.size w w' := by
  obtain ⟨n, rfl⟩ := h
  exact pw_below_drewN (Below.refl _ _) n
theorem world_any {P : Program} {c : Go.Code} {Q : Exit → Act → World → Prop} {a : Act} {W : World} (F : World → Prop) (h : F W) (g : ∀ W, F W → Code.wp P c Q a W) : Code.wp P c Q a W := g W h
theorem ne_later {α : Type} {d : Kd α} {e base : Nat} {ok : Nat → Prop} {w : World} {u v : Value} {xs : List α} (h : d.R e w base ok u xs) (hn : ∃ b, v.ownBlock = some b ∧ w.heap.size ≤ b) : ∀ k, v.ownBlock = some k → some k ≠ u.ownBlock := by
  intro k hk he
  obtain ⟨b, hb, hle⟩ := hn
  have := ((Kd.R_bound h).1 k he.symm).2.2.1
  rw [hb] at hk; injection hk with hk; omega
theorem ne_earlier {α : Type} {d : Kd α} {e base : Nat} {ok : Nat → Prop} {w : World} {u v : Value} {xs : List α} (h : d.R e w base ok u xs) (hn : ∃ b, v.ownBlock = some b ∧ w.heap.size ≤ b) : ∀ k, u.ownBlock = some k → some k ≠ v.ownBlock := by
  intro k hk he
  obtain ⟨b, hb, hle⟩ := hn
  have := ((Kd.R_bound h).1 k hk).2.2.1
  rw [hb] at he; injection he with he; omega
def rollR.T : Bool × List (List Nat × List Nat) := (true, [([], []), ([0], [0]), ([], []), ([], []), ([3], [3]), ([4], [4]), ([2, 5], [2, 5]), ([6], [6]), ([7], [7]), ([8], [8]), ([1, 9, 1], [1, 9]), ([10, 10, 0, 1, 2, 3, 4, 5, 6, 7, 8, 9, 10], [10])])
def rollR.B : List Nat := [0, 1, 0, 0, 8, 24, 60, 124, 252, 508, 1023, 2047]
theorem rollR.tab : rtab .any (opsOf Try.f11 10) = rollR.T := by kernel_rfl
theorem rollR.bits : waitsOk rollR.T.2 rollR.B = true := by kernel_rfl
set_option maxHeartbeats 40000000 in
set_option maxRecDepth 100000 in
theorem go_big (k : Nat) (A0 : Option Addr) (c0 : Nat) (l0 : List Int) (w : World) (hr0 : Kd.C (Kd.int .u8) w A0 l0.length l0) (hc0 : l0.length ≤ c0) (hbig : laws_big.f l0 = some true) :
    Calls Try.prog 11 #[.slice A0 l0.length c0] w fun e w' => e = .returned (.bool true) ∧ Below w.heap.size w w' := by
  have HR0 := Aside0.mk hr0
  have HC0 := Aside0.mk hc0
  have HB := Aside0.mk (Below.refl w.heap.size w)
  clear hr0 hc0
  go_enter Try.func11, Try.ntmps11
  go_wp2_with (first | ((with_reducible refine gate_callee (f := 38) rfl ?_); refine goesL_ (some 20) rfl rfl Try.func38 (by kernel_rfl) rfl #[.slice A0 l0.length c0] rfl (by (try simp only [List.map_toArray, List.map_cons, List.map_nil]); first | done | rfl | (simp only [List.length_drop, List.length_take]; rfl) | (go_simp; done) | (simp; done) | (simp; rfl)) ?_; (with_reducible refine (laws_big.calls _ _ l0 true _ ?side1 ?side2 hbig).mono ?_); (case side1 => repeat (first | exact (Kd.C_below HR0.out (by repeat (first | (with_reducible first | exact HB.out | apply below_alloc | apply pw_below_drewN | apply below_drew1) | exact HB.out))) | (with_reducible refine Kd.C_alloc ?_ _) | (with_reducible refine Kd.C_drewN ?_ _) | (with_reducible refine Kd.C_drew ?_))); (case side2 => exact HC0.out); rintro e wo ⟨rfl, hd⟩; have hb := drawn_below hd; clear hd; refine ⟨_, rfl, ?_⟩; have nb_ := Aside0.mk (below_step (by repeat (first | (with_reducible first | exact HB.out | apply below_alloc | apply pw_below_drewN | apply below_drew1) | exact HB.out)) hb); clear HB; have HB := nb_; clear nb_; clear hb))
  go_ret
  exact ⟨by first | rfl | (simp [errW_none, errW_some] <;> rfl) | (simp [*, errW_none, errW_some] <;> rfl), by repeat (first | (with_reducible first | exact HB.out | apply below_alloc | apply pw_below_drewN | apply below_drew1) | exact HB.out)⟩
set_option maxHeartbeats 40000000 in
set_option maxRecDepth 100000 in
theorem go_bad (k : Nat) (A0 : Option Addr) (c0 : Nat) (l0 : List Int) (a b r : List S55) (t : Int) (w : World) (hr0 : Kd.C (Kd.int .u8) w A0 l0.length l0) (hc0 : l0.length ≤ c0) (hbig : laws_big.f l0 = some false) (hdraw : spec_DrawJoinProfiles.f k l0 = some (a, b)) (himpl : impl_JoinProfiles.f k a b = some (r, t)) (hspec : spec_JoinProfiles.f k a b = some (r, t)) (hlike : laws_likeLayers.f k r r = some true) (ht : t ≠ 0) :
    Calls Try.prog 11 #[.slice A0 l0.length c0] w fun e w' => e = .returned (.bool true) ∧ Below w.heap.size w w' := by
  have HR0 := Aside0.mk hr0
  have HC0 := Aside0.mk hc0
  have HB := Aside0.mk (Below.refl w.heap.size w)
  have qt0 : (t == t) = true := by simp
  have qt1 : (t != t) = false := by simp
  have qt2 : (t == 0) = false := beq_eq_false_iff_ne.mpr ht
  have qt3 : (t != 0) = true := bne_iff_ne.mpr ht
  clear hr0 hc0
  go_enter Try.func11, Try.ntmps11
  go_wp2_with (first | ((with_reducible refine gate_callee (f := 38) rfl ?_); refine goesL_ (some 20) rfl rfl Try.func38 (by kernel_rfl) rfl #[.slice A0 l0.length c0] rfl (by (try simp only [List.map_toArray, List.map_cons, List.map_nil]); first | done | rfl | (simp only [List.length_drop, List.length_take]; rfl) | (go_simp; done) | (simp; done) | (simp; rfl)) ?_; (with_reducible refine (laws_big.calls _ _ l0 false _ ?side1 ?side2 hbig).mono ?_); (case side1 => repeat (first | exact (Kd.C_below HR0.out (by repeat (first | (with_reducible first | exact HB.out | apply below_alloc | apply pw_below_drewN | apply below_drew1) | exact HB.out))) | (with_reducible refine Kd.C_alloc ?_ _) | (with_reducible refine Kd.C_drewN ?_ _) | (with_reducible refine Kd.C_drew ?_))); (case side2 => exact HC0.out); rintro e wo ⟨rfl, hd⟩; have hb := drawn_below hd; clear hd; refine ⟨_, rfl, ?_⟩; have nb_ := Aside0.mk (below_step (by repeat (first | (with_reducible first | exact HB.out | apply below_alloc | apply pw_below_drewN | apply below_drew1) | exact HB.out)) hb); clear HB; have HB := nb_; clear nb_; clear hb) | ((with_reducible refine gate_callee (f := 39) rfl ?_); refine goesL_ (some 23) rfl rfl Try.func39 (by kernel_rfl) rfl #[.slice A0 l0.length c0] rfl (by (try simp only [List.map_toArray, List.map_cons, List.map_nil]); first | done | rfl | (simp only [List.length_drop, List.length_take]; rfl) | (go_simp; done) | (simp; done) | (simp; rfl)) ?_; (with_reducible refine (spec_DrawJoinProfiles.calls k _ _ l0 a b _ ?side1 ?side2 hdraw).mono ?_); (case side1 => repeat (first | exact (Kd.C_below HR0.out (by repeat (first | (with_reducible first | exact HB.out | apply below_alloc | apply pw_below_drewN | apply below_drew1) | exact HB.out))) | (with_reducible refine Kd.C_alloc ?_ _) | (with_reducible refine Kd.C_drewN ?_ _) | (with_reducible refine Kd.C_drew ?_))); (case side2 => exact HC0.out); rintro e wd ⟨va, vb, rfl, hRa, hRb, hb⟩; refine ⟨_, rfl, ?_⟩; obtain ⟨Aa, ca, ea⟩ := Kd.R_slice hRa; subst ea; obtain ⟨Ab, cb, eb⟩ := Kd.R_slice hRb; subst eb; have HA := Aside0.mk (Kd.R_lower (Kd.R_mono (ok' := fun _ => True) hRa (fun _ _ => trivial)) (below_size (by repeat (first | (with_reducible first | exact HB.out | apply below_alloc | apply pw_below_drewN | apply below_drew1) | exact HB.out)))); have HD := Aside0.mk (Kd.R_lower (Kd.R_mono (ok' := fun _ => True) hRb (fun _ _ => trivial)) (below_size (by repeat (first | (with_reducible first | exact HB.out | apply below_alloc | apply pw_below_drewN | apply below_drew1) | exact HB.out)))); clear hRa hRb; have nb_ := Aside0.mk (below_step (by repeat (first | (with_reducible first | exact HB.out | apply below_alloc | apply pw_below_drewN | apply below_drew1) | exact HB.out)) hb); clear HB; have HB := nb_; clear nb_; clear hb) | ((with_reducible refine gate_callee (f := 28) rfl ?_); refine goesL_ (some 29) rfl rfl Try.func28 (by kernel_rfl) rfl #[.slice Aa a.length ca, .slice Ab b.length cb] rfl (by (try simp only [List.map_toArray, List.map_cons, List.map_nil]); first | done | rfl | (simp only [List.length_drop, List.length_take]; rfl) | (go_simp; done) | (simp; done) | (simp; rfl)) ?_; (with_reducible refine (impl_JoinProfiles.calls k _ _ a _ _ b r t _ ?side1 ?side2 ?side3 ?side4 himpl).mono ?_); (case side1 => exact (Kd.R_reads' (by (with_reducible repeat (first | apply Kd.R_alloc | apply Kd.R_drewN | apply Kd.R_drew)); exact HA.out)).2.2); (case side2 => exact (Kd.R_reads' HA.out).2.1); (case side3 => exact (Kd.R_reads' (by (with_reducible repeat (first | apply Kd.R_alloc | apply Kd.R_drewN | apply Kd.R_drew)); exact HD.out)).2.2); (case side4 => exact (Kd.R_reads' HD.out).2.1); rintro e wg ⟨vg, rfl, hR, hb⟩; refine ⟨_, rfl, ?_⟩; obtain ⟨Ag, cg, eg⟩ := Kd.R_slice hR; subst eg; have HG := Aside0.mk (Kd.R_lower hR (below_size (by repeat (first | (with_reducible first | exact HB.out | apply below_alloc | apply pw_below_drewN | apply below_drew1) | exact HB.out)))); clear hR; have n0_ := Aside0.mk (Kd.R_below (by (with_reducible repeat (first | apply Kd.R_alloc | apply Kd.R_drewN | apply Kd.R_drew)); exact HA.out) hb); have n1_ := Aside0.mk (Kd.R_below (by (with_reducible repeat (first | apply Kd.R_alloc | apply Kd.R_drewN | apply Kd.R_drew)); exact HD.out) hb); have nb_ := Aside0.mk (below_step (by repeat (first | (with_reducible first | exact HB.out | apply below_alloc | apply pw_below_drewN | apply below_drew1) | exact HB.out)) hb); clear HA; clear HD; clear HB; have HA := n0_; have HD := n1_; have HB := nb_; clear n0_ n1_ nb_; clear hb) | ((with_reducible refine gate_callee (f := 27) rfl ?_); refine goesL_ (some 35) rfl rfl Try.func27 (by kernel_rfl) rfl #[.slice Aa a.length ca, .slice Ab b.length cb] rfl (by (try simp only [List.map_toArray, List.map_cons, List.map_nil]); first | done | rfl | (simp only [List.length_drop, List.length_take]; rfl) | (go_simp; done) | (simp; done) | (simp; rfl)) ?_; (with_reducible refine (spec_JoinProfiles.calls k _ _ a _ _ b r t _ ?side1 ?side2 ?side3 ?side4 hspec).mono ?_); (case side1 => exact (Kd.R_reads' (by (with_reducible repeat (first | apply Kd.R_alloc | apply Kd.R_drewN | apply Kd.R_drew)); exact HA.out)).2.2); (case side2 => exact (Kd.R_reads' HA.out).2.1); (case side3 => exact (Kd.R_reads' (by (with_reducible repeat (first | apply Kd.R_alloc | apply Kd.R_drewN | apply Kd.R_drew)); exact HD.out)).2.2); (case side4 => exact (Kd.R_reads' HD.out).2.1); rintro e wq ⟨vq, rfl, hR, hb⟩; refine ⟨_, rfl, ?_⟩; obtain ⟨Aq, cq, eq⟩ := Kd.R_slice hR; subst eq; have HQ := Aside0.mk (Kd.R_lower hR (below_size (by repeat (first | (with_reducible first | exact HB.out | apply below_alloc | apply pw_below_drewN | apply below_drew1) | exact HB.out)))); clear hR; have n0_ := Aside0.mk (Kd.R_below (by (with_reducible repeat (first | apply Kd.R_alloc | apply Kd.R_drewN | apply Kd.R_drew)); exact HA.out) hb); have n1_ := Aside0.mk (Kd.R_below (by (with_reducible repeat (first | apply Kd.R_alloc | apply Kd.R_drewN | apply Kd.R_drew)); exact HD.out) hb); have n2_ := Aside0.mk (Kd.R_below (by (with_reducible repeat (first | apply Kd.R_alloc | apply Kd.R_drewN | apply Kd.R_drew)); exact HG.out) hb); have nb_ := Aside0.mk (below_step (by repeat (first | (with_reducible first | exact HB.out | apply below_alloc | apply pw_below_drewN | apply below_drew1) | exact HB.out)) hb); clear HA; clear HD; clear HG; clear HB; have HA := n0_; have HD := n1_; have HG := n2_; have HB := nb_; clear n0_ n1_ n2_ nb_; clear hb) | (go_at_call 40; (with_reducible refine (laws_likeLayers.calls k _ _ r _ _ r true _ ?side1 ?side2 ?side3 ?side4 hlike).mono ?_); (case side1 => exact (Kd.R_reads' (by (with_reducible repeat (first | apply Kd.R_alloc | apply Kd.R_drewN | apply Kd.R_drew)); exact HG.out)).2.2); (case side2 => exact (Kd.R_reads' HG.out).2.1); (case side3 => exact (Kd.R_reads' (by (with_reducible repeat (first | apply Kd.R_alloc | apply Kd.R_drewN | apply Kd.R_drew)); exact HQ.out)).2.2); (case side4 => exact (Kd.R_reads' HQ.out).2.1); rintro e wl ⟨rfl, hd⟩; have hb := drawn_below hd; clear hd; have n0_ := Aside0.mk (Kd.R_below (by (with_reducible repeat (first | apply Kd.R_alloc | apply Kd.R_drewN | apply Kd.R_drew)); exact HA.out) hb); have n1_ := Aside0.mk (Kd.R_below (by (with_reducible repeat (first | apply Kd.R_alloc | apply Kd.R_drewN | apply Kd.R_drew)); exact HD.out) hb); have n2_ := Aside0.mk (Kd.R_below (by (with_reducible repeat (first | apply Kd.R_alloc | apply Kd.R_drewN | apply Kd.R_drew)); exact HG.out) hb); have n3_ := Aside0.mk (Kd.R_below (by (with_reducible repeat (first | apply Kd.R_alloc | apply Kd.R_drewN | apply Kd.R_drew)); exact HQ.out) hb); have nb_ := Aside0.mk (below_step (by repeat (first | (with_reducible first | exact HB.out | apply below_alloc | apply pw_below_drewN | apply below_drew1) | exact HB.out)) hb); clear HA; clear HD; clear HG; clear HQ; clear HB; have HA := n0_; have HD := n1_; have HG := n2_; have HQ := n3_; have HB := nb_; clear n0_ n1_ n2_ n3_ nb_; clear hb))
  go_ret
  exact ⟨by first | rfl | (simp [errW_none, errW_some] <;> rfl) | (simp [*, errW_none, errW_some] <;> rfl), by repeat (first | (with_reducible first | exact HB.out | apply below_alloc | apply pw_below_drewN | apply below_drew1) | exact HB.out)⟩
set_option maxHeartbeats 40000000 in
set_option maxRecDepth 100000 in
theorem go_ok (k : Nat) (A0 : Option Addr) (c0 : Nat) (l0 : List Int) (a b r : List S55) (s1 : List Int) (s2 s3 s4 s5 x top ji nx c d e f m1 m2 : Int) (w : World) (hr0 : Kd.C (Kd.int .u8) w A0 l0.length l0) (hc0 : l0.length ≤ c0) (hbig : laws_big.f l0 = some false) (hdraw : spec_DrawJoinProfiles.f k l0 = some (a, b)) (himpl : impl_JoinProfiles.f k a b = some (r, 0)) (hspec : spec_JoinProfiles.f k a b = some (r, 0)) (hlike : laws_likeLayers.f k r r = some true) (hroll : laws_roll.f k l0 501 = some (s1, s2, s3)) (hbel : laws_dice_below.f s1 s2 s3 nx = some (x, s4, s5)) (hnx : wrap64 (top + 1) = nx) (hji : wrap64 ((r.length : Int) - 1) = ji) (hp0 : 0 ≤ ji) (hq0 : ji < r.length) (htop : (rd_T55 r ji).f0 = top)
    (hm1 : (if e < c then e else c) = m1) (hm2 : (if d < f then f else d) = m2) (hw1 : impl_WindAt.f k r x = some (m1, m2, 0)) (hw2 : impl_WindAt.f k a x = some (c, d, 0)) (hw3 : impl_WindAt.f k b x = some (e, f, 0)) (hprof : impl_IsProfile.f k r = some true) :
    Calls Try.prog 11 #[.slice A0 l0.length c0] w fun e w' => e = .returned (.bool true) ∧ Below w.heap.size w w' := by
  have HR0 := Aside0.mk hr0
  have HC0 := Aside0.mk hc0
  have HB := Aside0.mk (Below.refl w.heap.size w)
  have hjiw : IntKind.i64.wrap ((r.length : Int) - 1) = ji := (i64_w _).trans hji
  have hnxw : IntKind.i64.wrap (top + 1) = nx := (i64_w _).trans hnx
  have qm0 : (m1 == m1) = true := by simp
  have qm1 : (m2 == m2) = true := by simp
  clear hr0 hc0
  go_enter Try.func11, Try.ntmps11
  go_upto_region 10 with (first | ((with_reducible refine gate_callee (f := 38) rfl ?_); refine goesL_ (some 20) rfl rfl Try.func38 (by kernel_rfl) rfl #[.slice A0 l0.length c0] rfl (by (try simp only [List.map_toArray, List.map_cons, List.map_nil]); first | done | rfl | (simp only [List.length_drop, List.length_take]; rfl) | (go_simp; done) | (simp; done) | (simp; rfl)) ?_; (with_reducible refine (laws_big.calls _ _ l0 false _ ?side1 ?side2 hbig).mono ?_); (case side1 => repeat (first | exact (Kd.C_below HR0.out (by repeat (first | (with_reducible first | exact HB.out | apply below_alloc | apply pw_below_drewN | apply below_drew1) | exact HB.out))) | (with_reducible refine Kd.C_alloc ?_ _) | (with_reducible refine Kd.C_drewN ?_ _) | (with_reducible refine Kd.C_drew ?_))); (case side2 => exact HC0.out); rintro e wo ⟨rfl, hd⟩; have hb := drawn_below hd; clear hd; refine ⟨_, rfl, ?_⟩; have nb_ := Aside0.mk (below_step (by repeat (first | (with_reducible first | exact HB.out | apply below_alloc | apply pw_below_drewN | apply below_drew1) | exact HB.out)) hb); clear HB; have HB := nb_; clear nb_; clear hb) | ((with_reducible refine gate_callee (f := 39) rfl ?_); refine goesL_ (some 23) rfl rfl Try.func39 (by kernel_rfl) rfl #[.slice A0 l0.length c0] rfl (by (try simp only [List.map_toArray, List.map_cons, List.map_nil]); first | done | rfl | (simp only [List.length_drop, List.length_take]; rfl) | (go_simp; done) | (simp; done) | (simp; rfl)) ?_; (with_reducible refine (spec_DrawJoinProfiles.calls k _ _ l0 a b _ ?side1 ?side2 hdraw).mono ?_); (case side1 => repeat (first | exact (Kd.C_below HR0.out (by repeat (first | (with_reducible first | exact HB.out | apply below_alloc | apply pw_below_drewN | apply below_drew1) | exact HB.out))) | (with_reducible refine Kd.C_alloc ?_ _) | (with_reducible refine Kd.C_drewN ?_ _) | (with_reducible refine Kd.C_drew ?_))); (case side2 => exact HC0.out); rintro e wd ⟨va, vb, rfl, hRa, hRb, hb⟩; refine ⟨_, rfl, ?_⟩; obtain ⟨Aa, ca, ea⟩ := Kd.R_slice hRa; subst ea; obtain ⟨Ab, cb, eb⟩ := Kd.R_slice hRb; subst eb; have HA := Aside0.mk (Kd.R_lower (Kd.R_mono (ok' := fun _ => True) hRa (fun _ _ => trivial)) (below_size (by repeat (first | (with_reducible first | exact HB.out | apply below_alloc | apply pw_below_drewN | apply below_drew1) | exact HB.out)))); have HD := Aside0.mk (Kd.R_lower (Kd.R_mono (ok' := fun _ => True) hRb (fun _ _ => trivial)) (below_size (by repeat (first | (with_reducible first | exact HB.out | apply below_alloc | apply pw_below_drewN | apply below_drew1) | exact HB.out)))); clear hRa hRb; have nb_ := Aside0.mk (below_step (by repeat (first | (with_reducible first | exact HB.out | apply below_alloc | apply pw_below_drewN | apply below_drew1) | exact HB.out)) hb); clear HB; have HB := nb_; clear nb_; clear hb) | ((with_reducible refine gate_callee (f := 28) rfl ?_); refine goesL_ (some 29) rfl rfl Try.func28 (by kernel_rfl) rfl #[.slice Aa a.length ca, .slice Ab b.length cb] rfl (by (try simp only [List.map_toArray, List.map_cons, List.map_nil]); first | done | rfl | (simp only [List.length_drop, List.length_take]; rfl) | (go_simp; done) | (simp; done) | (simp; rfl)) ?_; (with_reducible refine (impl_JoinProfiles.calls k _ _ a _ _ b r 0 _ ?side1 ?side2 ?side3 ?side4 himpl).mono ?_); (case side1 => exact (Kd.R_reads' (by (with_reducible repeat (first | apply Kd.R_alloc | apply Kd.R_drewN | apply Kd.R_drew)); exact HA.out)).2.2); (case side2 => exact (Kd.R_reads' HA.out).2.1); (case side3 => exact (Kd.R_reads' (by (with_reducible repeat (first | apply Kd.R_alloc | apply Kd.R_drewN | apply Kd.R_drew)); exact HD.out)).2.2); (case side4 => exact (Kd.R_reads' HD.out).2.1); rintro e wg ⟨vg, rfl, hR, hb⟩; refine ⟨_, rfl, ?_⟩; obtain ⟨Ag, cg, eg⟩ := Kd.R_slice hR; subst eg; have HG := Aside0.mk (Kd.R_lower hR (below_size (by repeat (first | (with_reducible first | exact HB.out | apply below_alloc | apply pw_below_drewN | apply below_drew1) | exact HB.out)))); clear hR; have n0_ := Aside0.mk (Kd.R_below (by (with_reducible repeat (first | apply Kd.R_alloc | apply Kd.R_drewN | apply Kd.R_drew)); exact HA.out) hb); have n1_ := Aside0.mk (Kd.R_below (by (with_reducible repeat (first | apply Kd.R_alloc | apply Kd.R_drewN | apply Kd.R_drew)); exact HD.out) hb); have nb_ := Aside0.mk (below_step (by repeat (first | (with_reducible first | exact HB.out | apply below_alloc | apply pw_below_drewN | apply below_drew1) | exact HB.out)) hb); clear HA; clear HD; clear HB; have HA := n0_; have HD := n1_; have HB := nb_; clear n0_ n1_ nb_; clear hb) | ((with_reducible refine gate_callee (f := 27) rfl ?_); refine goesL_ (some 35) rfl rfl Try.func27 (by kernel_rfl) rfl #[.slice Aa a.length ca, .slice Ab b.length cb] rfl (by (try simp only [List.map_toArray, List.map_cons, List.map_nil]); first | done | rfl | (simp only [List.length_drop, List.length_take]; rfl) | (go_simp; done) | (simp; done) | (simp; rfl)) ?_; (with_reducible refine (spec_JoinProfiles.calls k _ _ a _ _ b r 0 _ ?side1 ?side2 ?side3 ?side4 hspec).mono ?_); (case side1 => exact (Kd.R_reads' (by (with_reducible repeat (first | apply Kd.R_alloc | apply Kd.R_drewN | apply Kd.R_drew)); exact HA.out)).2.2); (case side2 => exact (Kd.R_reads' HA.out).2.1); (case side3 => exact (Kd.R_reads' (by (with_reducible repeat (first | apply Kd.R_alloc | apply Kd.R_drewN | apply Kd.R_drew)); exact HD.out)).2.2); (case side4 => exact (Kd.R_reads' HD.out).2.1); rintro e wq ⟨vq, rfl, hR, hb⟩; refine ⟨_, rfl, ?_⟩; obtain ⟨Aq, cq, eq⟩ := Kd.R_slice hR; subst eq; have HQ := Aside0.mk (Kd.R_lower hR (below_size (by repeat (first | (with_reducible first | exact HB.out | apply below_alloc | apply pw_below_drewN | apply below_drew1) | exact HB.out)))); clear hR; have n0_ := Aside0.mk (Kd.R_below (by (with_reducible repeat (first | apply Kd.R_alloc | apply Kd.R_drewN | apply Kd.R_drew)); exact HA.out) hb); have n1_ := Aside0.mk (Kd.R_below (by (with_reducible repeat (first | apply Kd.R_alloc | apply Kd.R_drewN | apply Kd.R_drew)); exact HD.out) hb); have n2_ := Aside0.mk (Kd.R_below (by (with_reducible repeat (first | apply Kd.R_alloc | apply Kd.R_drewN | apply Kd.R_drew)); exact HG.out) hb); have nb_ := Aside0.mk (below_step (by repeat (first | (with_reducible first | exact HB.out | apply below_alloc | apply pw_below_drewN | apply below_drew1) | exact HB.out)) hb); clear HA; clear HD; clear HG; clear HB; have HA := n0_; have HD := n1_; have HG := n2_; have HB := nb_; clear n0_ n1_ n2_ nb_; clear hb) | (go_at_call 40; (with_reducible refine (laws_likeLayers.calls k _ _ r _ _ r true _ ?side1 ?side2 ?side3 ?side4 hlike).mono ?_); (case side1 => exact (Kd.R_reads' (by (with_reducible repeat (first | apply Kd.R_alloc | apply Kd.R_drewN | apply Kd.R_drew)); exact HG.out)).2.2); (case side2 => exact (Kd.R_reads' HG.out).2.1); (case side3 => exact (Kd.R_reads' (by (with_reducible repeat (first | apply Kd.R_alloc | apply Kd.R_drewN | apply Kd.R_drew)); exact HQ.out)).2.2); (case side4 => exact (Kd.R_reads' HQ.out).2.1); rintro e wl ⟨rfl, hd⟩; have hb := drawn_below hd; clear hd; have n0_ := Aside0.mk (Kd.R_below (by (with_reducible repeat (first | apply Kd.R_alloc | apply Kd.R_drewN | apply Kd.R_drew)); exact HA.out) hb); have n1_ := Aside0.mk (Kd.R_below (by (with_reducible repeat (first | apply Kd.R_alloc | apply Kd.R_drewN | apply Kd.R_drew)); exact HD.out) hb); have n2_ := Aside0.mk (Kd.R_below (by (with_reducible repeat (first | apply Kd.R_alloc | apply Kd.R_drewN | apply Kd.R_drew)); exact HG.out) hb); have n3_ := Aside0.mk (Kd.R_below (by (with_reducible repeat (first | apply Kd.R_alloc | apply Kd.R_drewN | apply Kd.R_drew)); exact HQ.out) hb); have nb_ := Aside0.mk (below_step (by repeat (first | (with_reducible first | exact HB.out | apply below_alloc | apply pw_below_drewN | apply below_drew1) | exact HB.out)) hb); clear HA; clear HD; clear HG; clear HQ; clear HB; have HA := n0_; have HD := n1_; have HG := n2_; have HQ := n3_; have HB := nb_; clear n0_ n1_ n2_ n3_ nb_; clear hb))
  refine world_any (fun W => Kd.R k55 55 W w.heap.size (fun _ => True) (.slice Aa a.length ca) a ∧ Kd.R k55 55 W w.heap.size (fun _ => True) (.slice Ab b.length cb) b ∧ Kd.R k55 55 W w.heap.size (fun _ => True) (.slice Ag r.length cg) r ∧ Below w.heap.size w W) ⟨(by (with_reducible repeat (first | apply Kd.R_alloc | apply Kd.R_drewN | apply Kd.R_drew)); exact HA.out), (by (with_reducible repeat (first | apply Kd.R_alloc | apply Kd.R_drewN | apply Kd.R_drew)); exact HD.out), (by (with_reducible repeat (first | apply Kd.R_alloc | apply Kd.R_drewN | apply Kd.R_drew)); exact HG.out), by repeat (first | (with_reducible first | exact HB.out | apply below_alloc | apply pw_below_drewN | apply below_drew1) | exact HB.out)⟩ (fun W HF_ => ?_)
  have HA1 := Aside0.mk HF_.1
  have HD1 := Aside0.mk HF_.2.1
  have HG1 := Aside0.mk HF_.2.2.1
  have HBW := Aside0.mk HF_.2.2.2
  clear HF_ HA HD HG HQ HB
  obtain ⟨adj, ej, hx0, hx1, hx2⟩ := at_T55 (Kd.R_reads' HG1.out).2.2 ji hp0 hq0
  cases ej
  rw [htop] at hx0
  clear hx1 hx2
  have p55 := eq_true hp0
  have q55 := eq_true hq0
  have HRW := Aside0.mk (Kd.C_below HR0.out HBW.out)
  have HS := Aside0.mk (below_drew1 (Below.refl W.heap.size W))
  refine start_ (n := 12) (S := fun w' => Below W.heap.size W w') (ds := []) #[false, false, false, false, false, false, false, false, false, false, false, false] (by kernel_rfl) rfl rfl HS.out (fun hHeld => ?_)
  refine with_tabW rollR.tab rollR.bits (fun HT_ HW_ => ?_)
  refine pure_ (i := 0) (N := some 49) (v := ?_) (a' := ?_) #[true, false, false, false, false, false, false, false, false, false, false, false] rfl rfl (any_of HT_.out (by kernel_rfl)) (fun _ _ _ h => h) (Or.inl ⟨by rfl, ?_⟩) ?_ ?_
  rotate_left
  · intro w'
    go_simp
    with_reducible rfl
  rotate_left
  · simp only [Act.put, List.setIfInBounds_toArray, List.set_cons_zero, List.set_cons_succ, i64_w, i32_w]
    rfl
  refine pure_ (i := 2) (N := some 51) (v := ?_) (a' := ?_) #[true, false, true, false, false, false, false, false, false, false, false, false] rfl rfl (any_of HT_.out (by kernel_rfl)) (fun _ _ _ h => h) (Or.inl ⟨by rfl, ?_⟩) ?_ ?_
  rotate_left
  · intro w'
    go_simp
    with_reducible rfl
  rotate_left
  · simp only [Act.put, List.setIfInBounds_toArray, List.set_cons_zero, List.set_cons_succ, i64_w, i32_w]
    rfl
  refine pure_ (i := 3) (N := some 52) (v := ?_) (a' := ?_) #[true, false, true, true, false, false, false, false, false, false, false, false] rfl rfl (any_of HT_.out (by kernel_rfl)) (fun _ _ _ h => h) (Or.inl ⟨by rfl, ?_⟩) ?_ ?_
  rotate_left
  · intro w'
    go_simp
    with_reducible rfl
  rotate_left
  · simp only [Act.put, List.setIfInBounds_toArray, List.set_cons_zero, List.set_cons_succ, i64_w, i32_w]
    rfl
  refine pure_ (i := 4) (N := some 53) (v := ?_) (a' := ?_) #[true, false, true, true, true, false, false, false, false, false, false, false] rfl rfl (any_of HT_.out (by kernel_rfl)) (fun _ _ _ h => h) (Or.inl ⟨by rfl, ?_⟩) ?_ ?_
  rotate_left
  · intro w'
    go_simp
    with_reducible rfl
  rotate_left
  · simp only [Act.put, List.setIfInBounds_toArray, List.set_cons_zero, List.set_cons_succ, i64_w, i32_w]
    rfl
  refine pure_ (i := 5) (N := some 54) (v := ?_) (a' := ?_) #[true, false, true, true, true, true, false, false, false, false, false, false] rfl rfl (any_of HT_.out (by kernel_rfl)) (fun _ _ _ h => h) (Or.inl ⟨by rfl, ?_⟩) ?_ ?_
  rotate_left
  · intro w'
    go_simp
    with_reducible rfl
  rotate_left
  · simp only [Act.put, List.setIfInBounds_toArray, List.set_cons_zero, List.set_cons_succ, i64_w, i32_w]
    rfl
  refine pure_ (i := 6) (N := some 55) (v := ?_) (a' := ?_) #[true, false, true, true, true, true, true, false, false, false, false, false] rfl rfl (any_of HT_.out (by kernel_rfl)) (fun _ _ _ h => h) (Or.inl ⟨by rfl, ?_⟩) ?_ ?_
  rotate_left
  · intro w'
    go_simp
    with_reducible rfl
  rotate_left
  · simp only [Act.put, List.setIfInBounds_toArray, List.set_cons_zero, List.set_cons_succ, i64_w, i32_w]
    rfl
  refine pure_ (i := 7) (N := some 56) (v := ?_) (a' := ?_) #[true, false, true, true, true, true, true, true, false, false, false, false] rfl rfl (any_of HT_.out (by kernel_rfl)) (fun _ _ _ h => h) (Or.inl ⟨by rfl, ?_⟩) ?_ ?_
  rotate_left
  · intro w'
    go_simp
    with_reducible rfl
  rotate_left
  · simp only [Act.put, List.setIfInBounds_toArray, List.set_cons_zero, List.set_cons_succ, i64_w, i32_w]
    rfl
  refine take_ (i := 8) (N := some 57) (v := ?_) (a' := ?_) #[true, false, true, true, true, true, true, true, true, false, false, false] rfl rfl (take_ofW HT_.out HW_.out (by kernel_rfl)) (fun _ _ _ h => h) (Or.inl ⟨by rfl, ?_⟩) hHeld ?_ ?_
  rotate_left
  · intro w' s0_
    have s1_ := (s0_.cell (World.block_lt_of_cell? _ _ hx0)).trans hx0
    go_simp
    with_reducible rfl
  rotate_left
  · simp only [Act.put, List.setIfInBounds_toArray, List.set_cons_zero, List.set_cons_succ, i64_w, i32_w]
    rfl
  refine pure_ (i := 9) (N := some 58) (v := ?_) (a' := ?_) #[true, false, true, true, true, true, true, true, true, true, false, false] rfl rfl (any_of HT_.out (by kernel_rfl)) (fun _ _ _ h => h) (Or.inl ⟨by rfl, ?_⟩) ?_ ?_
  rotate_left
  · intro w'
    go_simp
    with_reducible rfl
  rotate_left
  · simp only [Act.put, List.setIfInBounds_toArray, List.set_cons_zero, List.set_cons_succ, i64_w, i32_w]
    rfl
  refine one_ (i := 1) (N := some 50) #[true, true, true, true, true, true, true, true, true, true, false, false] rfl rfl (one_of HT_.out (by kernel_rfl)) (by decide) (fun K hK => ?_)
  refine goes_ Try.func41 (by kernel_rfl) rfl #[.slice A0 l0.length c0, .int .u64 501] (by rfl) rfl rfl (by (try simp only [List.map_toArray, List.map_cons, List.map_nil]); first | done | rfl | (go_simp; done) | (simp; done) | (simp; rfl)) ?_
  with_reducible refine (laws_roll.calls k _ _ l0 501 s1 s2 s3 W _ ?side1 ?side2 ?side3 hroll).mono ?_
  case side1 => exact HS.out
  case side2 => exact HRW.out
  case side3 => exact HC0.out
  rintro e_ wr ⟨gd, rfl, hI, hbW, hb⟩
  refine ⟨_, rfl, ?_⟩
  have HI := Aside0.mk hI
  clear HS
  have HS := Aside0.mk hbW
  clear hI hbW hb
  refine hK.out _ _ HS.out (fun hHeld => ?_)
  clear hK K
  refine norm_ (a' := ?_) ?_ ?_
  rotate_left
  · show Act.put _ (some 50) _ = _
    simp only [Act.put, List.setIfInBounds_toArray, List.set_cons_zero, List.set_cons_succ, i64_w, i32_w]
    rfl
  refine one_ (i := 10) (N := some 59) #[true, true, true, true, true, true, true, true, true, true, true, false] rfl rfl (one_of HT_.out (by kernel_rfl)) (by decide) (fun K hK => ?_)
  refine goes_ Try.func42 (by kernel_rfl) rfl #[.pointer (some ⟨gd, 0, none⟩), .int .i64 nx] (by rfl) rfl rfl (by (try simp only [List.map_toArray, List.map_cons, List.map_nil]); first | done | rfl | (go_simp; done) | (simp; done) | (simp; rfl)) ?_
  with_reducible refine (laws_dice_below.calls gd s1 s2 s3 nx x s4 s5 W _ ?side1 ?side2 hbel).mono ?_
  case side1 => exact HI.out
  case side2 => exact HS.out
  rintro e_ wb ⟨rfl, hI, hbW, hk⟩
  refine ⟨_, rfl, ?_⟩
  clear HI HS
  have HS := Aside0.mk hbW
  clear hI hbW hk
  refine hK.out _ _ HS.out (fun hHeld => ?_)
  clear hK K
  refine norm_ (a' := ?_) ?_ ?_
  rotate_left
  · show Act.put _ (some 59) _ = _
    simp only [Act.put, List.setIfInBounds_toArray, List.set_cons_zero, List.set_cons_succ, i64_w, i32_w]
    rfl
  refine pure_ (i := 11) (N := some 9) (v := ?_) (a' := ?_) #[true, true, true, true, true, true, true, true, true, true, true, true] rfl rfl (any_of HT_.out (by kernel_rfl)) (fun _ _ _ h => h) (Or.inl ⟨by rfl, ?_⟩) ?_ ?_
  rotate_left
  · intro w'
    go_simp
    with_reducible rfl
  rotate_left
  · simp only [Act.put, List.setIfInBounds_toArray, List.set_cons_zero, List.set_cons_succ, i64_w, i32_w]
    rfl
  refine done_ (done_of HT_.out (by kernel_rfl)) ?_
  have HA := Aside0.mk (Kd.R_below HA1.out HS.out)
  have HD := Aside0.mk (Kd.R_below HD1.out HS.out)
  have HG := Aside0.mk (Kd.R_below HG1.out HS.out)
  have HB := Aside0.mk (below_step HBW.out HS.out)
  clear HA1 HD1 HG1 HBW HS hx0 p55 q55
  go_wp2_with (first | ((with_reducible refine gate_callee (f := 20) rfl ?_); refine goesL_ (some 63) rfl rfl Try.func20 (by kernel_rfl) rfl #[.slice (some adj) r.length cg, .int .i64 x] rfl (by (try simp only [List.map_toArray, List.map_cons, List.map_nil]); first | done | rfl | (simp only [List.length_drop, List.length_take]; rfl) | (go_simp; done) | (simp; done) | (simp; rfl)) ?_; (with_reducible refine (impl_WindAt.calls k _ _ r x m1 m2 0 _ ?side1 ?side2 hw1).mono ?_); (case side1 => exact (Kd.R_reads' (by (with_reducible repeat (first | apply Kd.R_alloc | apply Kd.R_drewN | apply Kd.R_drew)); exact HG.out)).2.2); (case side2 => exact (Kd.R_reads' HG.out).2.1); rintro e_ wa63 ⟨rfl, hb⟩; refine ⟨_, rfl, ?_⟩; have n0_ := Aside0.mk (Kd.R_below (by (with_reducible repeat (first | apply Kd.R_alloc | apply Kd.R_drewN | apply Kd.R_drew)); exact HA.out) hb); have n1_ := Aside0.mk (Kd.R_below (by (with_reducible repeat (first | apply Kd.R_alloc | apply Kd.R_drewN | apply Kd.R_drew)); exact HD.out) hb); have n2_ := Aside0.mk (Kd.R_below (by (with_reducible repeat (first | apply Kd.R_alloc | apply Kd.R_drewN | apply Kd.R_drew)); exact HG.out) hb); have nb_ := Aside0.mk (below_step (by repeat (first | (with_reducible first | exact HB.out | apply below_alloc | apply pw_below_drewN | apply below_drew1) | exact HB.out)) hb); clear HA; clear HD; clear HG; clear HB; have HA := n0_; have HD := n1_; have HG := n2_; have HB := nb_; clear n0_ n1_ n2_ nb_; clear hb) | ((with_reducible refine gate_callee (f := 20) rfl ?_); refine goesL_ (some 70) rfl rfl Try.func20 (by kernel_rfl) rfl #[.slice Aa a.length ca, .int .i64 x] rfl (by (try simp only [List.map_toArray, List.map_cons, List.map_nil]); first | done | rfl | (simp only [List.length_drop, List.length_take]; rfl) | (go_simp; done) | (simp; done) | (simp; rfl)) ?_; (with_reducible refine (impl_WindAt.calls k _ _ a x c d 0 _ ?side1 ?side2 hw2).mono ?_); (case side1 => exact (Kd.R_reads' (by (with_reducible repeat (first | apply Kd.R_alloc | apply Kd.R_drewN | apply Kd.R_drew)); exact HA.out)).2.2); (case side2 => exact (Kd.R_reads' HA.out).2.1); rintro e_ wa70 ⟨rfl, hb⟩; refine ⟨_, rfl, ?_⟩; have n0_ := Aside0.mk (Kd.R_below (by (with_reducible repeat (first | apply Kd.R_alloc | apply Kd.R_drewN | apply Kd.R_drew)); exact HA.out) hb); have n1_ := Aside0.mk (Kd.R_below (by (with_reducible repeat (first | apply Kd.R_alloc | apply Kd.R_drewN | apply Kd.R_drew)); exact HD.out) hb); have n2_ := Aside0.mk (Kd.R_below (by (with_reducible repeat (first | apply Kd.R_alloc | apply Kd.R_drewN | apply Kd.R_drew)); exact HG.out) hb); have nb_ := Aside0.mk (below_step (by repeat (first | (with_reducible first | exact HB.out | apply below_alloc | apply pw_below_drewN | apply below_drew1) | exact HB.out)) hb); clear HA; clear HD; clear HG; clear HB; have HA := n0_; have HD := n1_; have HG := n2_; have HB := nb_; clear n0_ n1_ n2_ nb_; clear hb) | ((with_reducible refine gate_callee (f := 20) rfl ?_); refine goesL_ (some 77) rfl rfl Try.func20 (by kernel_rfl) rfl #[.slice Ab b.length cb, .int .i64 x] rfl (by (try simp only [List.map_toArray, List.map_cons, List.map_nil]); first | done | rfl | (simp only [List.length_drop, List.length_take]; rfl) | (go_simp; done) | (simp; done) | (simp; rfl)) ?_; (with_reducible refine (impl_WindAt.calls k _ _ b x e f 0 _ ?side1 ?side2 hw3).mono ?_); (case side1 => exact (Kd.R_reads' (by (with_reducible repeat (first | apply Kd.R_alloc | apply Kd.R_drewN | apply Kd.R_drew)); exact HD.out)).2.2); (case side2 => exact (Kd.R_reads' HD.out).2.1); rintro e_ wa77 ⟨rfl, hb⟩; refine ⟨_, rfl, ?_⟩; have n0_ := Aside0.mk (Kd.R_below (by (with_reducible repeat (first | apply Kd.R_alloc | apply Kd.R_drewN | apply Kd.R_drew)); exact HA.out) hb); have n1_ := Aside0.mk (Kd.R_below (by (with_reducible repeat (first | apply Kd.R_alloc | apply Kd.R_drewN | apply Kd.R_drew)); exact HD.out) hb); have n2_ := Aside0.mk (Kd.R_below (by (with_reducible repeat (first | apply Kd.R_alloc | apply Kd.R_drewN | apply Kd.R_drew)); exact HG.out) hb); have nb_ := Aside0.mk (below_step (by repeat (first | (with_reducible first | exact HB.out | apply below_alloc | apply pw_below_drewN | apply below_drew1) | exact HB.out)) hb); clear HA; clear HD; clear HG; clear HB; have HA := n0_; have HD := n1_; have HG := n2_; have HB := nb_; clear n0_ n1_ n2_ nb_; clear hb) | (go_at_call 17; (with_reducible refine (impl_IsProfile.calls k _ _ r true _ ?side1 ?side2 hprof).mono ?_); (case side1 => exact (Kd.R_reads' (by (with_reducible repeat (first | apply Kd.R_alloc | apply Kd.R_drewN | apply Kd.R_drew)); exact HG.out)).2.2); (case side2 => exact (Kd.R_reads' HG.out).2.1); rintro e_ wp ⟨rfl, hb⟩; have n0_ := Aside0.mk (Kd.R_below (by (with_reducible repeat (first | apply Kd.R_alloc | apply Kd.R_drewN | apply Kd.R_drew)); exact HA.out) hb); have n1_ := Aside0.mk (Kd.R_below (by (with_reducible repeat (first | apply Kd.R_alloc | apply Kd.R_drewN | apply Kd.R_drew)); exact HD.out) hb); have n2_ := Aside0.mk (Kd.R_below (by (with_reducible repeat (first | apply Kd.R_alloc | apply Kd.R_drewN | apply Kd.R_drew)); exact HG.out) hb); have nb_ := Aside0.mk (below_step (by repeat (first | (with_reducible first | exact HB.out | apply below_alloc | apply pw_below_drewN | apply below_drew1) | exact HB.out)) hb); clear HA; clear HD; clear HG; clear HB; have HA := n0_; have HD := n1_; have HG := n2_; have HB := nb_; clear n0_ n1_ n2_ nb_; clear hb))
  go_ret
  exact ⟨by first | rfl | (simp [errW_none, errW_some] <;> rfl) | (simp [*, errW_none, errW_some] <;> rfl), by repeat (first | (with_reducible first | exact HB.out | apply below_alloc | apply pw_below_drewN | apply below_drew1) | exact HB.out)⟩
theorem likeL_l0 (l : List S55) (hl : l.length ≤ 1000000000) : ∀ (R : List S55) (i : Nat), l.drop i = R → Ev (fun k => laws_likeLayers.l0 k l l i) true := by
  intro R
  induction R with
  | nil =>
    intro i h
    have := drop_nil h
    exact Ev.step (fun k => laws_likeLayers.l0.eq_2 ..) (ev_neg (by omega) (Ev.now _))
  | cons c R ih =>
    intro i h
    obtain ⟨h1, h2, h3⟩ := rdOf_drop (d := z55) h
    refine Ev.step (fun k => laws_likeLayers.l0.eq_2 ..) (ev_pos (by omega) (ev_pos (by omega) (ev_pos (by omega) (ev_neg (by simp) ?_))))
    rw [w64 (n := (i : Int) + 1) (by omega) (by omega)]
    exact ih (i + 1) h3
theorem likeL_ev (l : List S55) (hl : l.length ≤ 1000000000) : Ev (fun k => laws_likeLayers.f k l l) true := ev_pos rfl (likeL_l0 l hl l 0 rfl)
theorem DrawJoin_ev {c : List Int} (hc : Code c) : ∃ a b, Ev (fun k => spec_DrawJoinProfiles.f k c) (a, b) ∧ a.length ≤ 8 ∧ b.length ≤ 8 := by
  obtain ⟨s, e, h⟩ := l01From_ev hc
  obtain ⟨a, a0, s0, e0, h0, ha⟩ := l05Draw_ev h
  obtain ⟨b, a1, s1, e1, h1, hb⟩ := l05Draw_ev h0
  exact ⟨a, b, e.bind (e0.bind (e1.bind (Ev.now _))), ha, hb⟩
theorem go (c : List Int) (hw : ∀ x ∈ c, (Lit.int .u8 x).wf = true) (A0 : Option Addr) (c0 : Nat) (w : World) (hr0 : Kd.C (Kd.int .u8) w A0 c.length c) (hc0 : c.length ≤ c0) :
    Calls Try.prog 11 #[.slice A0 c.length c0] w fun e w' => e = .returned (.bool true) ∧ Below w.heap.size w w' := by
  by_cases g : (c.length : Int) > 4096
  · exact go_big 0 A0 c0 c w hr0 hc0 (big_true g)
  have hbig := big_false g
  have hc := code_of hw g
  obtain ⟨a, b, ⟨K1, e1⟩, ha, hb⟩ := DrawJoin_ev hc
  obtain ⟨K2, e2⟩ := impl_JoinProfiles_ev a b (by omega) (by omega)
  obtain ⟨K3, e3⟩ := spec_JoinProfiles_ev a b (by omega) (by omega)
  have hl := joinM_len a b
  obtain ⟨K4, e4⟩ := likeL_ev (joinM a b).1 (by omega)
  by_cases t : (joinM a b).2 = 0
  · have hpp : profB a = true ∧ profB b = true := by
      by_cases q : profB a = true ∧ profB b = true
      · exact q
      · unfold joinM at t; rw [if_neg q] at t; exact absurd t (by decide)
    have hlen : (mgJ a b).length ≤ 6 := by
      unfold joinM finJ at t
      rw [if_pos hpp] at t
      by_cases q : ((mgJ a b).length : Int) > 6
      · rw [if_pos q] at t; exact absurd t (by decide)
      · omega
    have hj : joinM a b = (mgJ a b, 0) := by
      unfold joinM finJ
      rw [if_pos hpp, if_neg (by omega)]
    have hr := mgJ_prof hpp.1 hpp.2 hlen
    have hne := mgJ_ne hpp.1 hpp.2
    have hlast := rd_lastM hne
    have hlay := profB_lay hr _ hlast
    unfold layB at hlay
    simp only [Bool.and_eq_true, decide_eq_true_eq] at hlay
    have hpos := List.length_pos_iff.2 hne
    rw [hj] at e2 e3 e4
    obtain ⟨s3, ⟨K5, e5⟩, hd⟩ := roll_ev hc 501
    obtain ⟨x, s4, s5, ebel, hd', x0, x1⟩ := below_some hd (n := (rd_T55 (mgJ a b) (((mgJ a b).length : Int) - 1)).f0 + 1) (by omega)
    obtain ⟨cc, d, e, f, w2, w3, w1⟩ := join_wind hpp.1 hpp.2 hlen x0 (by omega)
    obtain ⟨K6, e6⟩ := impl_WindAt_ev (mgJ a b) (by omega) x
    obtain ⟨K7, e7⟩ := impl_WindAt_ev a (by omega) x
    obtain ⟨K8, e8⟩ := impl_WindAt_ev b (by omega) x
    obtain ⟨K9, e9⟩ := impl_IsProfile_ev (mgJ a b) (by omega)
    rw [w1] at e6
    rw [w2] at e7
    rw [w3] at e8
    rw [hr] at e9
    exact go_ok (K1 + K2 + K3 + K4 + K5 + K6 + K7 + K8 + K9) A0 c0 c a b (mgJ a b) _ _ _ _ _ x _ (((mgJ a b).length : Int) - 1) _ cc d e f _ _ w hr0 hc0 hbig (e1 _ (by omega)) (e2 _ (by omega)) (e3 _ (by omega)) (e4 _ (by omega)) (e5 _ (by omega)) ebel (w64 (by omega) (by omega)) (w64 (by omega) (by omega)) (by omega) (by omega) rfl rfl rfl (e6 _ (by omega)) (e7 _ (by omega)) (e8 _ (by omega)) (e9 _ (by omega))
  · exact go_bad (K1 + K2 + K3 + K4) A0 c0 c a b (joinM a b).1 (joinM a b).2 w hr0 hc0 hbig (e1 _ (by omega)) (e2 _ (by omega)) (e3 _ (by omega)) (e4 _ (by omega)) t
theorem walk (W : World) (a0 : Option Addr) (len0 cap0 : Nat) (z0 : List Int) (w0 : (a0 = none ∧ len0 = 0 ∧ cap0 = 0 ∧ z0 = []) ∨ ∃ x, a0 = some x ∧ len0 ≤ cap0 ∧ cap0 ≤ maxLen ∧ z0.length = cap0 ∧ (∀ i, i < z0.length → W.cell? (x.add i) = some (.int .u8 (z0.getD i 0))) ∧ ∀ n ∈ z0, (Lit.int .u8 n).wf = true) (y0 : len0 * 1 ≤ 140737488351232) :
    Calls Try.prog 11 #[.slice a0 len0 cap0] W fun e w' => e = .returned (.bool true) ∧ Below W.heap.size W w' := by
  obtain ⟨l0, rfl, hr0, hm0, hw0, hc0⟩ := ReadsInt.ofRowC w0
  exact go l0 hw0 _ _ W (Kd.C_of_reads (d := (0 : Int)) (h1 := fun _ => rfl) hr0) hc0

end Go.Proofs.Ytidibjmckgbpbaa.GoFnProfiles
