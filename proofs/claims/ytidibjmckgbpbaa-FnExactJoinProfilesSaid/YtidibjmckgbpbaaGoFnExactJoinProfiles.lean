/- JoinProfiles answers what the reference's answers, for all arguments; no condition. -/
import Derived.Test.YtidibjmckgbpbaaMa
import Derived.Test.YtidibjmckgbpbaaQFnExactJoinProfilesx
import Derived.Test.YtidibjmckgbpbaaHandFnExactJoinProfiles
namespace Go.Proofs.Ytidibjmckgbpbaa.GoFnExactJoinProfiles
open Go.RowKit Go.Proofs.Ytidibjmckgbpbaa.QFnExactJoinProfiles Go.Proofs.YtidibjmckgbpbaaW.PrintWords Go.Proofs.YtidibjmckgbpbaaW.PrintLast Go.Proofs.Ytidibjmckgbpbaa.Ma Go.Proofs.Ytidibjmckgbpbaa.HandFnExactJoinProfiles
set_option linter.unusedVariables false
set_option linter.unusedSimpArgs false

/-! ### division, ranges -/
theorem in_eq (a b c : Int) : spec_l01In.f a b c = some (decide (b ≤ a ∧ a ≤ c)) := by
  unfold spec_l01In.f
  by_cases h : b ≤ a <;> simp [h]
theorem within_eq (a b c : Int) : impl_within.f a b c = some (decide (b ≤ a ∧ a ≤ c)) := by
  unfold impl_within.f
  by_cases h : b ≤ a <;> simp [h]
theorem tdiv_floor {a b : Int} (hb : 0 < b) : (Int.tmod a b < 0 → Int.tdiv a b - 1 = a / b) ∧ (¬ Int.tmod a b < 0 → Int.tdiv a b = a / b) := by
  have h1 := Int.tdiv_eq_ediv (a := a) (b := b)
  have h2 := Int.tmod_eq_emod (a := a) (b := b)
  have h3 := Int.emod_nonneg a (show b ≠ 0 by omega)
  have h4 := Int.emod_lt_of_pos a hb
  by_cases h : 0 ≤ a ∨ b ∣ a
  · rw [if_pos h] at h1 h2
    omega
  · rw [if_neg h] at h1 h2
    rw [Int.sign_eq_one_of_pos hb] at h1
    omega
theorem ediv_small {a b : Int} (hb : 0 < b) (h : -4611686018427387904 ≤ a) (h' : a ≤ 4611686018427387904) : -4611686018427387904 ≤ a / b ∧ a / b ≤ 4611686018427387904 := by
  have h1 : -4611686018427387904 * b ≤ a := by
    have := Int.mul_le_mul_of_nonneg_left (show 1 ≤ b by omega) (show (0 : Int) ≤ 4611686018427387904 by omega); omega
  have h2 : a < (4611686018427387904 + 1) * b := by
    have := Int.mul_le_mul_of_nonneg_left (show 1 ≤ b by omega) (show (0 : Int) ≤ 4611686018427387905 by omega); omega
  have h3 := (Int.le_ediv_iff_mul_le hb).2 h1
  have h4 := (Int.ediv_lt_iff_lt_mul hb).2 h2
  omega
/-! ### profiles -/
def layB (x : S55) : Bool := decide (1 ≤ x.f0 ∧ x.f0 ≤ 1000000) && (decide (-50000 ≤ x.f1 ∧ x.f1 ≤ 50000) && decide (x.f1 ≤ x.f2 ∧ x.f2 ≤ 50000))
def profL : Option S55 → List S55 → Bool
  | _, [] => true
  | none, x :: R => layB x && profL (some x) R
  | some q, x :: R => layB x && (decide (q.f0 < x.f0) && profL (some x) R)
def profB (m : List S55) : Bool := decide (1 ≤ m.length ∧ m.length ≤ 6) && profL none m
def prevAt (l : List S55) (i : Nat) : Option S55 := if i = 0 then none else some (rdOf z55 l ((i : Int) - 1))
theorem prev_next {l R : List S55} {i : Nat} {c : S55} (h : l.drop i = c :: R) : prevAt l (i + 1) = some c := by
  obtain ⟨h1, h2, h3⟩ := rdOf_drop (d := z55) h
  unfold prevAt
  rw [if_neg (by omega), show ((i + 1 : Nat) : Int) - 1 = (i : Int) by omega, h2]
theorem spec_IsProfile_l0 (l : List S55) (hl : l.length ≤ 4611686018427387904) : ∀ (R : List S55) (i : Nat), l.drop i = R → Ev (fun k => spec_IsProfile.l0 k l i) (profL (prevAt l i) R && decide (1 ≤ l.length ∧ l.length ≤ 6)) := by
  intro R
  induction R with
  | nil =>
    intro i h
    have := drop_nil h
    refine Ev.step (fun k => spec_IsProfile.l0.eq_2 ..) (ev_neg (by omega) (ev_bind0 (in_eq ..) (ev_ret ?_)))
    have e : profL (prevAt l i) [] = true := by unfold profL; rfl
    rw [e, Bool.true_and]
    exact decide_eq_decide.2 (by omega)
  | cons c R ih =>
    intro i h
    obtain ⟨h1, h2, h3⟩ := rdOf_drop (d := z55) h
    have h2' : rd_T55 l (i : Int) = c := h2
    refine Ev.step (fun k => spec_IsProfile.l0.eq_2 ..) (ev_pos (by omega) (ev_pos (by omega) ?_))
    rw [h2', w64 (n := (i : Int) + 1) (by omega) (by omega)]
    have hn := ih (i + 1) h3
    rw [prev_next h] at hn
    refine ev_bind0 (in_eq ..) ?_
    by_cases a : 1 ≤ c.f0 ∧ c.f0 ≤ 1000000
    · refine ev_pos (by simpa using a) (ev_bind0 (in_eq ..) ?_)
      by_cases b : -50000 ≤ c.f1 ∧ c.f1 ≤ 50000
      · refine ev_pos (by simpa using b) (ev_bind0 (in_eq ..) ?_)
        by_cases d : c.f1 ≤ c.f2 ∧ c.f2 ≤ 50000
        · refine ev_pos (by simpa using d) ?_
          have hc : layB c = true := by unfold layB; simp [a, b, d]
          by_cases g : (i : Int) > 0
          · refine ev_pos g ?_
            rw [w64 (n := (i : Int) - 1) (by omega) (by omega)]
            refine ev_pos (by omega) (ev_pos (by omega) ?_)
            have hp : prevAt l i = some (rdOf z55 l ((i : Int) - 1)) := by unfold prevAt; rw [if_neg (by omega)]
            rw [hp]
            by_cases u : (rd_T55 l ((i : Int) - 1)).f0 ≥ c.f0
            · refine ev_pos u (ev_ret ?_)
              have u' : ¬ (rdOf z55 l ((i : Int) - 1)).f0 < c.f0 := by
                have : rd_T55 l ((i : Int) - 1) = rdOf z55 l ((i : Int) - 1) := rfl
                rw [← this]; omega
              simp [profL, u']
            · refine ev_neg u ?_
              have u' : (rdOf z55 l ((i : Int) - 1)).f0 < c.f0 := by
                have : rd_T55 l ((i : Int) - 1) = rdOf z55 l ((i : Int) - 1) := rfl
                rw [← this]; omega
              have e : profL (some (rdOf z55 l ((i : Int) - 1))) (c :: R) = profL (some c) R := by simp [profL, hc, u']
              rw [e]; exact hn
          · refine ev_neg g ?_
            have hp : prevAt l i = none := by unfold prevAt; rw [if_pos (by omega)]
            have e : profL none (c :: R) = profL (some c) R := by simp [profL, hc]
            rw [hp, e]; exact hn
        · refine ev_neg (by simpa using d) (ev_ret ?_)
          have hc : layB c = false := by unfold layB; simp [d]
          cases prevAt l i <;> simp [profL, hc]
      · refine ev_neg (by simpa using b) (ev_ret ?_)
        have hc : layB c = false := by unfold layB; simp [b]
        cases prevAt l i <;> simp [profL, hc]
    · refine ev_neg (by simpa using a) (ev_ret ?_)
      have hc : layB c = false := by unfold layB; simp [a]
      cases prevAt l i <;> simp [profL, hc]
theorem spec_IsProfile_ev (l : List S55) (hl : l.length ≤ 4611686018427387904) : Ev (fun k => spec_IsProfile.f k l) (profB l) := by
  have h := spec_IsProfile_l0 l hl l 0 rfl
  have e : profB l = (profL (prevAt l 0) l && decide (1 ≤ l.length ∧ l.length ≤ 6)) := by unfold profB prevAt; rw [if_pos rfl, Bool.and_comm]
  rw [e]; exact h
theorem isSide_eq (n : Int) : impl_isSide.f n = some (decide (-50000 ≤ n ∧ n ≤ 50000)) := by unfold impl_isSide.f; rw [within_eq]; rfl
theorem areWinds_eq (a b : Int) : impl_areWinds.f a b = some (decide (-50000 ≤ a ∧ a ≤ 50000) && decide (a ≤ b ∧ b ≤ 50000)) := by
  unfold impl_areWinds.f
  rw [isSide_eq, isSide_eq]
  simp only [Option.bind_some]
  by_cases h : -50000 ≤ a ∧ a ≤ 50000
  · rw [if_pos (by simpa using h)]
    by_cases g : -50000 ≤ b ∧ b ≤ 50000
    · rw [if_pos (by simpa using g)]
      simp [h]; omega
    · rw [if_neg (by simpa using g)]
      simp [h]; omega
  · rw [if_neg (by simpa using h)]
    simp [h]
theorem impl_IsProfile_l0 (l : List S55) (hl : l.length ≤ 4611686018427387904) : ∀ (R : List S55) (i : Nat), l.drop i = R → Ev (fun k => impl_IsProfile.l0 k l l (l.length : Int) i) (profL (prevAt l i) R) := by
  intro R
  induction R with
  | nil =>
    intro i h
    have := drop_nil h
    refine Ev.step (fun k => impl_IsProfile.l0.eq_2 ..) (ev_neg (by omega) (ev_ret ?_))
    unfold profL; rfl
  | cons c R ih =>
    intro i h
    obtain ⟨h1, h2, h3⟩ := rdOf_drop (d := z55) h
    have h2' : rd_T55 l (i : Int) = c := h2
    refine Ev.step (fun k => impl_IsProfile.l0.eq_2 ..) (ev_pos (by omega) (ev_pos (by omega) (ev_pos (by omega) ?_)))
    rw [h2', w64 (n := (i : Int) + 1) (by omega) (by omega)]
    have hn := ih (i + 1) h3
    rw [prev_next h] at hn
    refine ev_bind0 (within_eq ..) ?_
    by_cases a : 1 ≤ c.f0 ∧ c.f0 ≤ 1000000
    · refine ev_pos (by simpa using a) (ev_bind0 (areWinds_eq ..) ?_)
      by_cases b : (decide (-50000 ≤ c.f1 ∧ c.f1 ≤ 50000) && decide (c.f1 ≤ c.f2 ∧ c.f2 ≤ 50000)) = true
      · refine ev_pos b ?_
        have hc : layB c = true := by unfold layB; rw [b]; simp [a]
        by_cases g : (i : Int) > 0
        · refine ev_pos g ?_
          rw [w64 (n := (i : Int) - 1) (by omega) (by omega)]
          refine ev_pos (by omega) (ev_pos (by omega) ?_)
          have hp : prevAt l i = some (rdOf z55 l ((i : Int) - 1)) := by unfold prevAt; rw [if_neg (by omega)]
          rw [hp]
          by_cases u : (rd_T55 l ((i : Int) - 1)).f0 ≥ c.f0
          · refine ev_pos u (ev_ret ?_)
            have u' : ¬ (rdOf z55 l ((i : Int) - 1)).f0 < c.f0 := by
              have : rd_T55 l ((i : Int) - 1) = rdOf z55 l ((i : Int) - 1) := rfl
              rw [← this]; omega
            simp [profL, u']
          · refine ev_neg u ?_
            have u' : (rdOf z55 l ((i : Int) - 1)).f0 < c.f0 := by
              have : rd_T55 l ((i : Int) - 1) = rdOf z55 l ((i : Int) - 1) := rfl
              rw [← this]; omega
            have e : profL (some (rdOf z55 l ((i : Int) - 1))) (c :: R) = profL (some c) R := by simp [profL, hc, u']
            rw [e]; exact hn
        · refine ev_neg g ?_
          have hp : prevAt l i = none := by unfold prevAt; rw [if_pos (by omega)]
          have e : profL none (c :: R) = profL (some c) R := by simp [profL, hc]
          rw [hp, e]; exact hn
      · refine ev_neg b (ev_ret ?_)
        have hc : layB c = false := by unfold layB; simp only [Bool.not_eq_true] at b; rw [b]; simp
        cases prevAt l i <;> simp [profL, hc]
    · refine ev_neg (by simpa using a) (ev_ret ?_)
      have hc : layB c = false := by unfold layB; simp [a]
      cases prevAt l i <;> simp [profL, hc]
theorem impl_IsProfile_ev (l : List S55) (hl : l.length ≤ 4611686018427387904) : Ev (fun k => impl_IsProfile.f k l) (profB l) := by
  have h := impl_IsProfile_l0 l hl l 0 rfl
  have e0 : prevAt l 0 = none := by unfold prevAt; rw [if_pos rfl]
  rw [e0] at h
  unfold impl_IsProfile.f profB
  by_cases a : (l.length : Int) < 1
  · refine ev_pos a (Ev.step (fun k => impl_IsProfile.j0.eq_2 ..) (ev_pos rfl (ev_ret ?_)))
    simp; omega
  · refine ev_neg a (Ev.step (fun k => impl_IsProfile.j0.eq_2 ..) ?_)
    by_cases b : (l.length : Int) > 6
    · refine ev_pos (by simpa using b) (ev_ret ?_)
      simp; omega
    · refine ev_neg (by simpa using b) ?_
      have e : (decide (1 ≤ l.length ∧ l.length ≤ 6) && profL none l) = profL none l := by
        simp; intro _; omega
      rw [e]; exact h

/-! ### the first gust -/
def findF (h : Int) : List S55 → Nat → Int
  | [], _ => -1
  | c :: R, i => if h ≤ c.f0 then (i : Int) else findF h R (i + 1)
def findM (l : List S55) (h : Int) : Int := findF h l 0
theorem findF_lt (h : Int) : ∀ (R : List S55) (i : Nat), findF h R i < (i + R.length : Nat) ∧ -1 ≤ findF h R i
  | [], i => by unfold findF; constructor <;> omega
  | c :: R, i => by
    unfold findF
    have := findF_lt h R (i + 1)
    simp only [List.length_cons]
    split
    · omega
    · omega
theorem findM_lt (l : List S55) (h : Int) : findM l h < (l.length : Int) := by have := (findF_lt h l 0).1; unfold findM; omega
theorem spec_l05Find_l0 (l : List S55) (hl : l.length ≤ 4611686018427387904) (h : Int) : ∀ (R : List S55) (i : Nat), l.drop i = R → Ev (fun k => spec_l05Find.l0 k l h i) (findF h R i) := by
  intro R
  induction R with
  | nil =>
    intro i e
    have := drop_nil e
    exact Ev.step (fun k => spec_l05Find.l0.eq_2 ..) (ev_neg (by omega) (Ev.now _))
  | cons c R ih =>
    intro i e
    obtain ⟨h1, h2, h3⟩ := rdOf_drop (d := z55) e
    have h2' : rd_T55 l (i : Int) = c := h2
    refine Ev.step (fun k => spec_l05Find.l0.eq_2 ..) (ev_pos (by omega) (ev_pos (by omega) ?_))
    rw [h2', w64 (n := (i : Int) + 1) (by omega) (by omega)]
    unfold findF
    by_cases g : h ≤ c.f0
    · exact ev_pos g (ev_ret (by rw [if_pos g]))
    · rw [if_neg g]; exact ev_neg (by omega) (ih (i + 1) h3)
theorem spec_l05Find_ev (l : List S55) (hl : l.length ≤ 4611686018427387904) (h : Int) : Ev (fun k => spec_l05Find.f k l h) (findM l h) := spec_l05Find_l0 l hl h l 0 rfl
/-! ### joined profiles -/
theorem mn_le (a b : Int) : mn a b ≤ a ∧ mn a b ≤ b ∧ (mn a b = a ∨ mn a b = b) := by unfold mn; split <;> omega
def tp (l : List S55) : List Int := l.map (fun c => c.f0)
theorem profL_gt : ∀ (R : List S55) (q : S55), profL (some q) R = true → ∀ c ∈ R, q.f0 < c.f0
  | [], _, _, c, hc => by simp at hc
  | x :: R, q, h, c, hc => by
    simp only [profL, Bool.and_eq_true, decide_eq_true_eq] at h
    rcases List.mem_cons.1 hc with rfl | hc
    · exact h.2.1
    · have := profL_gt R x h.2.2 c hc; omega
theorem profL_tail {p : Option S55} {x : S55} {R : List S55} (h : profL p (x :: R) = true) : profL (some x) R = true := by
  cases p <;> simp only [profL, Bool.and_eq_true] at h
  · exact h.2
  · exact h.2.2
theorem profL_pw : ∀ (R : List S55) (p : Option S55), profL p R = true → R.Pairwise (fun a b => a.f0 < b.f0)
  | [], _, _ => List.Pairwise.nil
  | x :: R, p, h => List.Pairwise.cons (fun c hc => profL_gt R x (profL_tail h) c hc) (profL_pw R (some x) (profL_tail h))
/-! #### numbers with one more, each once -/
def insU : List Int → Int → List Int
  | [], n => [n]
  | c :: R, n => if c < n then c :: insU R n else if c = n then c :: R else n :: c :: R
theorem insU_mem (n t : Int) : ∀ l : List Int, t ∈ insU l n ↔ t ∈ l ∨ t = n
  | [] => by simp [insU]
  | c :: R => by
    unfold insU
    split
    · rw [List.mem_cons, insU_mem n t R, List.mem_cons]; exact or_assoc.symm
    · split
      · rename_i h; subst h; simp only [List.mem_cons]; constructor
        · intro h; exact .inl h
        · rintro (h | h)
          · exact h
          · exact .inl h
      · simp only [List.mem_cons]; constructor
        · rintro (h | h | h)
          · exact .inr h
          · exact .inl (.inl h)
          · exact .inl (.inr h)
        · rintro ((h | h) | h)
          · exact .inr (.inl h)
          · exact .inr (.inr h)
          · exact .inl h
theorem insU_pw (n : Int) : ∀ l : List Int, l.Pairwise (· < ·) → (insU l n).Pairwise (· < ·)
  | [], _ => by simp [insU]
  | c :: R, h => by
    have h1 := (List.pairwise_cons.1 h).1
    have h2 := (List.pairwise_cons.1 h).2
    unfold insU
    split
    · rename_i g
      refine List.pairwise_cons.2 ⟨fun t ht => ?_, insU_pw n R h2⟩
      rcases (insU_mem n t R).1 ht with ht | ht
      · exact h1 t ht
      · rw [ht]; exact g
    · split
      · exact h
      · refine List.pairwise_cons.2 ⟨fun t ht => ?_, h⟩
        rcases List.mem_cons.1 ht with rfl | ht
        · omega
        · have := h1 t ht; omega
theorem insU_len (n : Int) : ∀ l : List Int, (insU l n).length ≤ l.length + 1
  | [] => by simp [insU]
  | c :: R => by
    have := insU_len n R
    unfold insU
    split
    · simp; omega
    · split <;> simp
theorem spec_l03Insert_l0 (l : List Int) (hl : l.length ≤ 1000000) (n : Int) : ∀ (R : List Int) (i : Nat), l.drop i = R → i ≤ l.length → Ev (fun k => spec_l03Insert.l0 k l n i) (l.take i ++ insU R n) := by
  intro R
  induction R with
  | nil =>
    intro i h hi
    have := drop_nil h
    refine Ev.step (fun k => spec_l03Insert.l0.eq_2 ..) (ev_neg (by omega) (ev_pos ⟨by omega, by omega, by omega⟩ (ev_ret ?_)))
    rw [show ((i : Nat) : Int).toNat = i by omega, h]
    simp [insU]
  | cons c R ih =>
    intro i h hi
    obtain ⟨h1, h2, h3⟩ := rd_drop h
    obtain ⟨_, h4, _⟩ := drop_cons h
    refine Ev.step (fun k => spec_l03Insert.l0.eq_2 ..) (ev_pos (by omega) (ev_pos (by omega) ?_))
    rw [h2, w64 (n := (i : Int) + 1) (by omega) (by omega)]
    unfold insU
    by_cases g : c < n
    · have e := ih (i + 1) h3 (by omega)
      rw [List.take_add_one, h4] at e
      refine ev_pos g ?_
      rw [if_pos g]
      simpa using e
    · rw [if_neg g]
      refine ev_neg g ?_
      by_cases g2 : c = n
      · refine ev_pos g2 (ev_ret ?_)
        rw [if_pos g2, ← h, List.take_append_drop]
      · refine ev_neg g2 (ev_pos ⟨by omega, by omega, by omega⟩ (ev_ret ?_))
        rw [if_neg g2, show ((i : Nat) : Int).toNat = i by omega, h]
        simp
theorem spec_l03Insert_ev (l : List Int) (hl : l.length ≤ 1000000) (n : Int) : Ev (fun k => spec_l03Insert.f k l n) (insU l n) := by
  have := spec_l03Insert_l0 l hl n l 0 rfl (by omega)
  rw [List.take_zero, List.nil_append] at this
  exact this
def topsF (e : Int) : List S55 → List Int → List Int
  | [], acc => acc
  | c :: R, acc => if c.f0 ≤ e then topsF e R (insU acc c.f0) else topsF e R acc
theorem topsF_mem (e t : Int) : ∀ (R : List S55) (acc : List Int), t ∈ topsF e R acc ↔ t ∈ acc ∨ ((∃ c ∈ R, c.f0 = t) ∧ t ≤ e)
  | [], acc => by simp [topsF]
  | c :: R, acc => by
    unfold topsF
    split
    · rename_i g
      rw [topsF_mem e t R, insU_mem]
      constructor
      · rintro ((h | h) | ⟨⟨d, hd, h⟩, h'⟩)
        · exact .inl h
        · exact .inr ⟨⟨c, by simp, h.symm⟩, by omega⟩
        · exact .inr ⟨⟨d, by simp [hd], h⟩, h'⟩
      · rintro (h | ⟨⟨d, hd, h⟩, h'⟩)
        · exact .inl (.inl h)
        · rcases List.mem_cons.1 hd with rfl | hd
          · exact .inl (.inr h.symm)
          · exact .inr ⟨⟨d, hd, h⟩, h'⟩
    · rename_i g
      rw [topsF_mem e t R]
      constructor
      · rintro (h | ⟨⟨d, hd, h⟩, h'⟩)
        · exact .inl h
        · exact .inr ⟨⟨d, by simp [hd], h⟩, h'⟩
      · rintro (h | ⟨⟨d, hd, h⟩, h'⟩)
        · exact .inl h
        · rcases List.mem_cons.1 hd with rfl | hd
          · omega
          · exact .inr ⟨⟨d, hd, h⟩, h'⟩
theorem topsF_pw (e : Int) : ∀ (R : List S55) (acc : List Int), acc.Pairwise (· < ·) → (topsF e R acc).Pairwise (· < ·)
  | [], acc, h => h
  | c :: R, acc, h => by
    unfold topsF
    split
    · exact topsF_pw e R _ (insU_pw _ _ h)
    · exact topsF_pw e R _ h
theorem topsF_len (e : Int) : ∀ (R : List S55) (acc : List Int), (topsF e R acc).length ≤ acc.length + R.length
  | [], acc => by simp [topsF]
  | c :: R, acc => by
    unfold topsF
    split
    · have := topsF_len e R (insU acc c.f0)
      have := insU_len c.f0 acc
      simp only [List.length_cons]; omega
    · have := topsF_len e R acc
      simp only [List.length_cons]; omega
theorem pw_ext : ∀ (l m : List Int), l.Pairwise (· < ·) → m.Pairwise (· < ·) → (∀ t, t ∈ l ↔ t ∈ m) → l = m
  | [], [], _, _, _ => rfl
  | [], b :: m, _, _, h => by have := (h b).2 (by simp); simp at this
  | a :: l, [], _, _, h => by have := (h a).1 (by simp); simp at this
  | a :: l, b :: m, hl, hm, h => by
    obtain ⟨l1, l2⟩ := List.pairwise_cons.1 hl
    obtain ⟨m1, m2⟩ := List.pairwise_cons.1 hm
    have e : a = b := by
      rcases List.mem_cons.1 ((h a).1 (by simp)) with e | e
      · exact e
      · rcases List.mem_cons.1 ((h b).2 (by simp)) with f | f
        · exact f.symm
        · have := m1 a e; have := l1 b f; omega
    subst e
    rw [pw_ext l m l2 m2 (fun t => ⟨fun ht => ?_, fun ht => ?_⟩)]
    · rcases List.mem_cons.1 ((h t).1 (by simp [ht])) with e | e
      · have := l1 t ht; omega
      · exact e
    · rcases List.mem_cons.1 ((h t).2 (by simp [ht])) with e | e
      · have := m1 t ht; omega
      · exact e
/-! #### both at once -/
def jn (x y : S55) : S55 := ⟨mn x.f0 y.f0, mn x.f1 y.f1, mx x.f2 y.f2⟩
def mg (e : Int) : Nat → List S55 → List S55 → List S55
  | 0, _, _ => []
  | _ + 1, [], _ => []
  | _ + 1, _ :: _, [] => []
  | n + 1, x :: X, y :: Y => if mn x.f0 y.f0 > e then [] else jn x y :: mg e n (if x.f0 = mn x.f0 y.f0 then X else x :: X) (if y.f0 = mn x.f0 y.f0 then Y else y :: Y)
theorem mg_nil1 (e : Int) (n : Nat) (Y : List S55) : mg e n [] Y = [] := by cases n <;> rfl
theorem mg_nil2 (e : Int) (n : Nat) (X : List S55) : mg e n X [] = [] := by cases n <;> cases X <;> rfl
abbrev Inc (l : List S55) : Prop := l.Pairwise (fun a b => a.f0 < b.f0)
theorem step_sub {x : S55} {X : List S55} {t : Int} : ∀ z ∈ (if x.f0 = t then X else x :: X), z ∈ x :: X := by
  intro z hz
  split at hz
  · simp [hz]
  · exact hz
theorem step_inc {x : S55} {X : List S55} {t : Int} (h : Inc (x :: X)) : Inc (if x.f0 = t then X else x :: X) := by
  split
  · exact (List.pairwise_cons.1 h).2
  · exact h
theorem step_gt {x : S55} {X : List S55} {t : Int} (h : Inc (x :: X)) (ht : t ≤ x.f0) : ∀ z ∈ (if x.f0 = t then X else x :: X), t < z.f0 := by
  have h1 := (List.pairwise_cons.1 h).1
  intro z hz
  split at hz
  · have := h1 z hz; omega
  · rcases List.mem_cons.1 hz with rfl | hz
    · omega
    · have := h1 z hz; omega
theorem step_len {x : S55} {X : List S55} {t : Int} : (if x.f0 = t then X else x :: X).length ≤ X.length + 1 := by
  split <;> simp
theorem step_lens {x y : S55} {X Y : List S55} : (if x.f0 = mn x.f0 y.f0 then X else x :: X).length + (if y.f0 = mn x.f0 y.f0 then Y else y :: Y).length ≤ X.length + Y.length + 1 := by
  have := (mn_le x.f0 y.f0).2.2
  split
  · split <;> simp <;> omega
  · rw [if_pos (by omega)]; simp; omega
theorem mg_gt (e s : Int) : ∀ (n : Nat) (X Y : List S55), (∀ z ∈ X, s < z.f0) → (∀ z ∈ Y, s < z.f0) → ∀ m ∈ mg e n X Y, s < m.f0
  | 0, _, _, _, _, m, hm => by simp [mg] at hm
  | _ + 1, [], _, _, _, m, hm => by simp [mg] at hm
  | _ + 1, _ :: _, [], _, _, m, hm => by simp [mg] at hm
  | n + 1, x :: X, y :: Y, hX, hY, m, hm => by
    unfold mg at hm
    split at hm
    · simp at hm
    · rcases List.mem_cons.1 hm with rfl | hm
      · have h1 := hX x (by simp)
        have h2 := hY y (by simp)
        show s < mn x.f0 y.f0
        unfold mn; split <;> omega
      · exact mg_gt e s n _ _ (fun z hz => hX z (step_sub z hz)) (fun z hz => hY z (step_sub z hz)) m hm
theorem mg_pw (e : Int) : ∀ (n : Nat) (X Y : List S55), Inc X → Inc Y → Inc (mg e n X Y)
  | 0, _, _, _, _ => by simp [mg]
  | _ + 1, [], _, _, _ => by simp [mg]
  | _ + 1, _ :: _, [], _, _ => by simp [mg]
  | n + 1, x :: X, y :: Y, hX, hY => by
    unfold mg
    split
    · exact List.Pairwise.nil
    · exact List.pairwise_cons.2 ⟨mg_gt e _ n _ _ (step_gt hX (mn_le x.f0 y.f0).1) (step_gt hY (mn_le x.f0 y.f0).2.1), mg_pw e n _ _ (step_inc hX) (step_inc hY)⟩
def lastGe (e : Int) (X : List S55) : Prop := ∀ (h : X ≠ []), e ≤ (X.getLast h).f0
theorem lastGe_step {e t : Int} {x : S55} {X : List S55} (h : lastGe e (x :: X)) : lastGe e (if x.f0 = t then X else x :: X) := by
  split
  · intro hX
    have := h (by simp)
    rwa [List.getLast_cons hX] at this
  · exact h
theorem mg_mem (e t : Int) : ∀ (n : Nat) (X Y : List S55), X.length + Y.length ≤ n → Inc X → Inc Y → lastGe e X → lastGe e Y → (X = [] → ∀ y ∈ Y, e < y.f0) → (Y = [] → ∀ x ∈ X, e < x.f0) →
    ((∃ m ∈ mg e n X Y, m.f0 = t) ↔ ((∃ c ∈ X, c.f0 = t) ∨ (∃ c ∈ Y, c.f0 = t)) ∧ t ≤ e) := by
  intro n
  induction n with
  | zero =>
    intro X Y hn _ _ _ _ _ _
    have hX : X = [] := List.length_eq_zero_iff.1 (by omega)
    have hY : Y = [] := List.length_eq_zero_iff.1 (by omega)
    subst hX hY
    simp [mg]
  | succ n ih =>
    intro X Y hn iX iY lX lY cX cY
    cases X with
    | nil =>
      rw [mg_nil1]
      constructor
      · rintro ⟨m, hm, _⟩; simp at hm
      · rintro ⟨⟨c, hc, h⟩ | ⟨c, hc, h⟩, h'⟩
        · simp at hc
        · have := cX rfl c hc; omega
    | cons x X =>
      cases Y with
      | nil =>
        rw [mg_nil2]
        constructor
        · rintro ⟨m, hm, _⟩; simp at hm
        · rintro ⟨⟨c, hc, h⟩ | ⟨c, hc, h⟩, h'⟩
          · have := cY rfl c hc; omega
          · simp at hc
      | cons y Y =>
        have hX1 := (List.pairwise_cons.1 iX).1
        have hY1 := (List.pairwise_cons.1 iY).1
        obtain ⟨m1, m2, m3⟩ := mn_le x.f0 y.f0
        unfold mg
        by_cases g : mn x.f0 y.f0 > e
        · rw [if_pos g]
          constructor
          · rintro ⟨m, hm, _⟩; simp at hm
          · rintro ⟨⟨c, hc, h⟩ | ⟨c, hc, h⟩, h'⟩
            · rcases List.mem_cons.1 hc with rfl | hc
              · omega
              · have := hX1 c hc; omega
            · rcases List.mem_cons.1 hc with rfl | hc
              · omega
              · have := hY1 c hc; omega
        · rw [if_neg g]
          have gX := step_gt iX m1
          have gY := step_gt iY m2
          have hl := step_lens (x := x) (y := y) (X := X) (Y := Y)
          have key := ih (if x.f0 = mn x.f0 y.f0 then X else x :: X) (if y.f0 = mn x.f0 y.f0 then Y else y :: Y) (by simp only [List.length_cons] at hn; omega) (step_inc iX) (step_inc iY) (lastGe_step lX) (lastGe_step lY)
            (by
              intro h z hz
              have hx : x.f0 = mn x.f0 y.f0 := by
                by_cases q : x.f0 = mn x.f0 y.f0
                · exact q
                · rw [if_neg q] at h; exact absurd h (by simp)
              rw [if_pos hx] at h
              subst h
              have := lX (by simp)
              simp only [List.getLast_singleton] at this
              have := gY z hz
              omega)
            (by
              intro h z hz
              have hy : y.f0 = mn x.f0 y.f0 := by
                by_cases q : y.f0 = mn x.f0 y.f0
                · exact q
                · rw [if_neg q] at h; exact absurd h (by simp)
              rw [if_pos hy] at h
              subst h
              have := lY (by simp)
              simp only [List.getLast_singleton] at this
              have := gX z hz
              omega)
          constructor
          · rintro ⟨m, hm, h⟩
            rcases List.mem_cons.1 hm with rfl | hm
            · have h : mn x.f0 y.f0 = t := h
              refine ⟨?_, by omega⟩
              rcases m3 with q | q
              · exact .inl ⟨x, by simp, by omega⟩
              · exact .inr ⟨y, by simp, by omega⟩
            · obtain ⟨k1, k2⟩ := key.1 ⟨m, hm, h⟩
              refine ⟨?_, k2⟩
              rcases k1 with ⟨c, hc, q⟩ | ⟨c, hc, q⟩
              · exact .inl ⟨c, step_sub c hc, q⟩
              · exact .inr ⟨c, step_sub c hc, q⟩
          · rintro ⟨k1, k2⟩
            by_cases q : t = mn x.f0 y.f0
            · exact ⟨jn x y, by simp, q.symm⟩
            · obtain ⟨m, hm, hq⟩ := key.2 ⟨by
                rcases k1 with ⟨c, hc, q'⟩ | ⟨c, hc, q'⟩
                · refine .inl ⟨c, ?_, q'⟩
                  split
                  · rcases List.mem_cons.1 hc with rfl | hc
                    · omega
                    · exact hc
                  · exact hc
                · refine .inr ⟨c, ?_, q'⟩
                  split
                  · rcases List.mem_cons.1 hc with rfl | hc
                    · omega
                    · exact hc
                  · exact hc, k2⟩
              exact ⟨m, by simp [hm], hq⟩
/-! #### the row of a top -/
theorem findF_at (t : Int) (x : S55) (X : List S55) : ∀ (P : List S55) (i : Nat), (∀ c ∈ P, c.f0 < t) → t ≤ x.f0 → findF t (P ++ x :: X) i = (i + P.length : Nat)
  | [], i, _, h => by simp [findF, h]
  | c :: P, i, h, h' => by
    have hc := h c (by simp)
    simp only [List.cons_append, findF]
    rw [if_neg (by omega), findF_at t x X P (i + 1) (fun z hz => h z (by simp [hz])) h']
    simp only [List.length_cons]; omega
theorem rd_mid (P X : List S55) (x : S55) : rd_T55 (P ++ x :: X) (P.length : Int) = x := by
  unfold rd_T55
  rw [List.getD_eq_getElem?_getD, show ((P.length : Int)).toNat = P.length by omega, List.getElem?_append_right (Nat.le_refl _)]
  simp
def rowJ (a b : List S55) (t : Int) : S55 := ⟨t, mn (rd_T55 a (findM a t)).f1 (rd_T55 b (findM b t)).f1, mx (rd_T55 a (findM a t)).f2 (rd_T55 b (findM b t)).f2⟩
theorem find_row {P X : List S55} {x : S55} {t : Int} (h : ∀ c ∈ P, c.f0 < t) (ht : t ≤ x.f0) : rd_T55 (P ++ x :: X) (findM (P ++ x :: X) t) = x := by
  unfold findM
  rw [findF_at t x X P 0 h ht, show ((0 + P.length : Nat) : Int) = (P.length : Int) by omega, rd_mid]
theorem mg_row (e : Int) (a b : List S55) : ∀ (n : Nat) (P X Q Y : List S55), a = P ++ X → b = Q ++ Y → Inc X → Inc Y → (∀ c ∈ P, (∀ z ∈ X, c.f0 < z.f0) ∧ ∀ z ∈ Y, c.f0 < z.f0) → (∀ c ∈ Q, (∀ z ∈ X, c.f0 < z.f0) ∧ ∀ z ∈ Y, c.f0 < z.f0) →
    ∀ m ∈ mg e n X Y, m = rowJ a b m.f0 := by
  intro n
  induction n with
  | zero => intro P X Q Y _ _ _ _ _ _ m hm; simp [mg] at hm
  | succ n ih =>
    intro P X Q Y ea eb iX iY hP hQ m hm
    cases X with
    | nil => simp [mg] at hm
    | cons x X =>
      cases Y with
      | nil => simp [mg] at hm
      | cons y Y =>
        obtain ⟨m1, m2, m3⟩ := mn_le x.f0 y.f0
        unfold mg at hm
        split at hm
        · simp at hm
        · rcases List.mem_cons.1 hm with rfl | hm
          · show jn x y = rowJ a b (mn x.f0 y.f0)
            unfold rowJ
            rw [ea, eb, find_row (P := P) (X := X) (fun c hc => ?_) m1, find_row (P := Q) (X := Y) (fun c hc => ?_) m2]
            · rfl
            · have h1 := (hQ c hc).1 x (by simp); have h2 := (hQ c hc).2 y (by simp); omega
            · have h1 := (hP c hc).1 x (by simp); have h2 := (hP c hc).2 y (by simp); omega
          · have gX := step_gt iX m1
            have gY := step_gt iY m2
            refine ih (if x.f0 = mn x.f0 y.f0 then P ++ [x] else P) (if x.f0 = mn x.f0 y.f0 then X else x :: X) (if y.f0 = mn x.f0 y.f0 then Q ++ [y] else Q) (if y.f0 = mn x.f0 y.f0 then Y else y :: Y) ?_ ?_ (step_inc iX) (step_inc iY) ?_ ?_ m hm
            · split <;> simp [ea]
            · split <;> simp [eb]
            · intro c hc
              have hc' : c ∈ P ∨ c.f0 = mn x.f0 y.f0 := by
                split at hc
                · rename_i q
                  rcases List.mem_append.1 hc with hc | hc
                  · exact .inl hc
                  · rw [List.mem_singleton.1 hc]; exact .inr q
                · exact .inl hc
              rcases hc' with hc | hc
              · exact ⟨fun z hz => (hP c hc).1 z (step_sub z hz), fun z hz => (hP c hc).2 z (step_sub z hz)⟩
              · rw [hc]; exact ⟨gX, gY⟩
            · intro c hc
              have hc' : c ∈ Q ∨ c.f0 = mn x.f0 y.f0 := by
                split at hc
                · rename_i q
                  rcases List.mem_append.1 hc with hc | hc
                  · exact .inl hc
                  · rw [List.mem_singleton.1 hc]; exact .inr q
                · exact .inl hc
              rcases hc' with hc | hc
              · exact ⟨fun z hz => (hQ c hc).1 z (step_sub z hz), fun z hz => (hQ c hc).2 z (step_sub z hz)⟩
              · rw [hc]; exact ⟨gX, gY⟩
def endJ (a b : List S55) : Int := mn (rd_T55 a ((a.length : Int) - 1)).f0 (rd_T55 b ((b.length : Int) - 1)).f0
def mgJ (a b : List S55) : List S55 := mg (endJ a b) (a.length + b.length) a b
def finJ (o : List S55) : List S55 × Int := if (o.length : Int) > 6 then ([], 3) else (o, 0)
def joinM (a b : List S55) : List S55 × Int := if profB a = true ∧ profB b = true then finJ (mgJ a b) else ([], 1)
theorem rd_last {l : List S55} (h : l ≠ []) : rd_T55 l ((l.length : Int) - 1) = l.getLast h := by
  have hl : 0 < l.length := List.length_pos_iff.2 h
  unfold rd_T55
  rw [List.getD_eq_getElem?_getD, show ((l.length : Int) - 1).toNat = l.length - 1 by omega, List.getElem?_eq_getElem (by omega), List.getLast_eq_getElem]
  rfl
theorem profB_inc {l : List S55} (h : profB l = true) : Inc l ∧ l ≠ [] ∧ l.length ≤ 6 := by
  unfold profB at h
  simp only [Bool.and_eq_true, decide_eq_true_eq] at h
  exact ⟨profL_pw l none h.2, by intro e; rw [e] at h; simp at h, h.1.2⟩
theorem tops_eq {a b : List S55} (ha : profB a = true) (hb : profB b = true) : topsF (endJ a b) (a ++ b) [] = (mgJ a b).map (fun c => c.f0) := by
  obtain ⟨a1, a2, a3⟩ := profB_inc ha
  obtain ⟨b1, b2, b3⟩ := profB_inc hb
  have hle := mn_le (rd_T55 a ((a.length : Int) - 1)).f0 (rd_T55 b ((b.length : Int) - 1)).f0
  refine pw_ext _ _ (topsF_pw _ _ _ List.Pairwise.nil) ?_ ?_
  · exact List.pairwise_map.2 (mg_pw _ _ _ _ a1 b1)
  · intro t
    rw [topsF_mem]
    have key := mg_mem (endJ a b) t (a.length + b.length) a b (Nat.le_refl _) a1 b1 (fun h => by rw [← rd_last h]; exact hle.1) (fun h => by rw [← rd_last h]; exact hle.2.1) (fun h => absurd h a2) (fun h => absurd h b2)
    rw [List.mem_map]
    constructor
    · rintro (h | ⟨⟨c, hc, h⟩, h'⟩)
      · simp at h
      · refine key.2 ⟨?_, h'⟩
        rcases List.mem_append.1 hc with hc | hc
        · exact .inl ⟨c, hc, h⟩
        · exact .inr ⟨c, hc, h⟩
    · intro h
      obtain ⟨k1, k2⟩ := key.1 h
      refine .inr ⟨?_, k2⟩
      rcases k1 with ⟨c, hc, q⟩ | ⟨c, hc, q⟩
      · exact ⟨c, by simp [hc], q⟩
      · exact ⟨c, by simp [hc], q⟩
theorem rows_eq {a b : List S55} (ha : profB a = true) (hb : profB b = true) : (topsF (endJ a b) (a ++ b) []).map (rowJ a b) = mgJ a b := by
  obtain ⟨a1, _, _⟩ := profB_inc ha
  obtain ⟨b1, _, _⟩ := profB_inc hb
  rw [tops_eq ha hb, List.map_map]
  conv => rhs; rw [← List.map_id (mgJ a b)]
  refine List.map_congr_left (fun m hm => ?_)
  exact (mg_row (endJ a b) a b _ [] a [] b rfl rfl a1 b1 (by simp) (by simp) m hm).symm
theorem findF_pos (t : Int) : ∀ (R : List S55) (i : Nat), (∃ c ∈ R, t ≤ c.f0) → 0 ≤ findF t R i
  | [], i, ⟨c, hc, _⟩ => by simp at hc
  | x :: R, i, ⟨c, hc, h⟩ => by
    unfold findF
    split
    · omega
    · rename_i g
      rcases List.mem_cons.1 hc with rfl | hc
      · exact absurd h g
      · exact findF_pos t R (i + 1) ⟨c, hc, h⟩
theorem mgJ_len {a b : List S55} (ha : profB a = true) (hb : profB b = true) : (mgJ a b).length ≤ 12 := by
  have h := topsF_len (endJ a b) (a ++ b) []
  rw [tops_eq ha hb, List.length_map, List.length_append] at h
  have h1 := (profB_inc ha).2.2
  have h2 := (profB_inc hb).2.2
  simp at h; omega
theorem spec_Join_l1 (a b : List S55) (ha : a.length ≤ 100) (hb : b.length ≤ 100) (T : List Int) (hT : T.length ≤ 100) : ∀ (R : List Int) (i : Nat) (out : List S55), T.drop i = R → out.length ≤ i → (∀ t ∈ R, 0 ≤ findM a t ∧ 0 ≤ findM b t) →
    Ev (fun k => spec_JoinProfiles.l1 k a b T out i) (out ++ R.map (rowJ a b), 0) := by
  intro R
  induction R with
  | nil =>
    intro i out h ho _
    have := drop_nil h
    exact Ev.step (fun k => spec_JoinProfiles.l1.eq_2 ..) (ev_neg (by omega) (ev_ret (by simp)))
  | cons t R ih =>
    intro i out h ho hf
    obtain ⟨h1, h2, h3⟩ := rd_drop h
    obtain ⟨f1, f2⟩ := hf t (by simp)
    have e1 : Ev (fun k => spec_l05Find.f k a t) (findM a t) := spec_l05Find_l0 a (by omega) t a 0 rfl
    have e2 : Ev (fun k => spec_l05Find.f k b t) (findM b t) := spec_l05Find_l0 b (by omega) t b 0 rfl
    have l1 := findM_lt a t
    have l2 := findM_lt b t
    have e := ih (i + 1) (out ++ [rowJ a b t]) h3 (by simp; omega) (fun s hs => hf s (by simp [hs]))
    refine Ev.step (fun k => spec_JoinProfiles.l1.eq_2 ..) (ev_pos (by omega) (ev_pos (by omega) ?_))
    rw [h2, w64 (n := (i : Int) + 1) (by omega) (by omega)]
    refine e1.bind (ev_pos f1 (ev_pos l1 (e2.bind (ev_pos f2 (ev_pos l2 (ev_pos (by omega) ?_))))))
    rw [List.append_assoc] at e
    exact e
def finT (a b : List S55) (T : List Int) : List S55 × Int := if (T.length : Int) > 6 then ([], 3) else (T.map (rowJ a b), 0)
theorem spec_Join_l0 (a b : List S55) (ha : a.length ≤ 6) (hb : b.length ≤ 6) (e : Int) (hf : ∀ t, t ≤ e → 0 ≤ findM a t ∧ 0 ≤ findM b t) (L : List S55) (hL : L.length ≤ 12) : ∀ (R : List S55) (i : Nat) (acc : List Int), L.drop i = R → acc.length ≤ i → (∀ t ∈ acc, t ≤ e) →
    Ev (fun k => spec_JoinProfiles.l0 k a b acc L e i) (finT a b (topsF e R acc)) := by
  intro R
  induction R with
  | nil =>
    intro i acc h ho hacc
    have := drop_nil h
    refine Ev.step (fun k => spec_JoinProfiles.l0.eq_2 ..) (ev_neg (by omega) ?_)
    rw [show topsF e [] acc = acc from rfl]
    unfold finT
    by_cases g : (acc.length : Int) > 6
    · exact ev_pos g (ev_ret (by rw [if_pos g]))
    · rw [if_neg g]
      refine ev_neg g ?_
      have := spec_Join_l1 a b (by omega) (by omega) acc (by omega) acc 0 [] rfl (by simp) (fun t ht => hf t (hacc t ht))
      rwa [List.nil_append] at this
  | cons c R ih =>
    intro i acc h ho hacc
    obtain ⟨h1, h2, h3⟩ := rdOf_drop (d := z55) h
    have h2' : rd_T55 L (i : Int) = c := h2
    refine Ev.step (fun k => spec_JoinProfiles.l0.eq_2 ..) (ev_pos (by omega) (ev_pos (by omega) ?_))
    rw [h2', w64 (n := (i : Int) + 1) (by omega) (by omega)]
    by_cases g : c.f0 ≤ e
    · rw [show topsF e (c :: R) acc = topsF e R (insU acc c.f0) from if_pos g]
      have := insU_len c.f0 acc
      refine ev_pos g ((spec_l03Insert_ev acc (by omega) c.f0).bind (ih (i + 1) (insU acc c.f0) h3 (by omega) (fun t ht => ?_)))
      rcases (insU_mem c.f0 t acc).1 ht with ht | ht
      · exact hacc t ht
      · omega
    · rw [show topsF e (c :: R) acc = topsF e R acc from if_neg g]
      exact ev_neg g (ih (i + 1) acc h3 (by omega) hacc)
theorem rd_lastM {l : List S55} (h : l ≠ []) : rd_T55 l ((l.length : Int) - 1) ∈ l := by rw [rd_last h]; exact List.getLast_mem h
theorem spec_JoinProfiles_ev (a b : List S55) (ha : a.length ≤ 4611686018427387904) (hb : b.length ≤ 4611686018427387904) : Ev (fun k => spec_JoinProfiles.f k a b) (joinM a b) := by
  have p1 := spec_IsProfile_ev a ha
  have p2 := spec_IsProfile_ev b hb
  unfold joinM
  by_cases g1 : profB a = true
  · by_cases g2 : profB b = true
    · rw [if_pos ⟨g1, g2⟩]
      obtain ⟨_, a2, a3⟩ := profB_inc g1
      obtain ⟨_, b2, b3⟩ := profB_inc g2
      have al : 0 < a.length := List.length_pos_iff.2 a2
      have bl : 0 < b.length := List.length_pos_iff.2 b2
      have hle := mn_le (rd_T55 a ((a.length : Int) - 1)).f0 (rd_T55 b ((b.length : Int) - 1)).f0
      refine p1.bind (ev_pos g1 (p2.bind (Ev.step (fun k => spec_JoinProfiles.j0.eq_2 ..) (ev_neg (by rw [g2]; decide) ?_))))
      rw [w64 (n := (a.length : Int) - 1) (by omega) (by omega), w64 (n := (b.length : Int) - 1) (by omega) (by omega)]
      refine ev_bind0 rfl (ev_pos (by simp; omega) (ev_bind0 rfl (ev_pos (by simp; omega) (ev_pos (by omega) (ev_pos (by omega) (ev_pos (by omega) (ev_pos (by omega) ?_)))))))
      have h := spec_Join_l0 a b a3 b3 (endJ a b) (fun t ht => ⟨findF_pos t a 0 ⟨_, rd_lastM a2, by unfold endJ at ht; omega⟩, findF_pos t b 0 ⟨_, rd_lastM b2, by unfold endJ at ht; omega⟩⟩) (a ++ b) (by rw [List.length_append]; omega) (a ++ b) 0 [] rfl (by simp) (by simp)
      have e2 : finJ (mgJ a b) = finT a b (topsF (endJ a b) (a ++ b) []) := by
        unfold finJ finT
        rw [rows_eq g1 g2, tops_eq g1 g2, List.length_map]
      rw [e2]
      exact h
    · rw [if_neg (fun h => g2 h.2)]
      have g2' : profB b = false := by simpa using g2
      exact p1.bind (ev_pos g1 (p2.bind (Ev.step (fun k => spec_JoinProfiles.j0.eq_2 ..) (ev_pos (by rw [g2']; rfl) (Ev.now _)))))
  · rw [if_neg (fun h => g1 h.1)]
    exact p1.bind (ev_neg g1 (Ev.step (fun k => spec_JoinProfiles.j0.eq_2 ..) (ev_pos rfl (Ev.now _))))
theorem finJ_end (k : Nat) (o : List S55) : (if (o.length : Int) > 6 then (some (([] : List S55), (3 : Int))) else (some (o, 0))) = some (finJ o) := by
  unfold finJ; split <;> rfl
theorem impl_Join_l0 (a b : List S55) (ha : a.length ≤ 100) (hb : b.length ≤ 100) (e : Int) : ∀ (n : Nat) (X Y : List S55) (i j : Nat) (out : List S55), a.drop i = X → b.drop j = Y → X.length + Y.length ≤ n → out.length + n ≤ 1000 →
    Ev (fun k => impl_JoinProfiles.l0 k a b e out i j) (finJ (out ++ mg e n X Y)) := by
  intro n
  induction n with
  | zero =>
    intro X Y i j out hX hY hn ho
    have eX : X = [] := List.length_eq_zero_iff.1 (by omega)
    subst eX
    have := drop_nil hX
    refine Ev.step (fun k => impl_JoinProfiles.l0.eq_2 ..) (ev_neg (by omega) (Ev.step (fun k => impl_JoinProfiles.j2.eq_2 ..) (ev_neg (by decide) ?_)))
    simp only [mg, List.append_nil]
    exact ev_const (finJ_end 0 out)
  | succ n ih =>
    intro X Y i j out hX hY hn ho
    cases X with
    | nil =>
      have := drop_nil hX
      refine Ev.step (fun k => impl_JoinProfiles.l0.eq_2 ..) (ev_neg (by omega) (Ev.step (fun k => impl_JoinProfiles.j2.eq_2 ..) (ev_neg (by decide) ?_)))
      rw [mg_nil1, List.append_nil]
      exact ev_const (finJ_end 0 out)
    | cons x X =>
      obtain ⟨x1, x2, x3⟩ := rdOf_drop (d := z55) hX
      have x2' : rd_T55 a (i : Int) = x := x2
      cases Y with
      | nil =>
        have := drop_nil hY
        refine Ev.step (fun k => impl_JoinProfiles.l0.eq_2 ..) (ev_pos (by omega) (Ev.step (fun k => impl_JoinProfiles.j2.eq_2 ..) (ev_neg (by simp; omega) ?_)))
        rw [mg_nil2, List.append_nil]
        exact ev_const (finJ_end 0 out)
      | cons y Y =>
        obtain ⟨y1, y2, y3⟩ := rdOf_drop (d := z55) hY
        have y2' : rd_T55 b (j : Int) = y := y2
        refine Ev.step (fun k => impl_JoinProfiles.l0.eq_2 ..) (ev_pos (by omega) (Ev.step (fun k => impl_JoinProfiles.j2.eq_2 ..) (ev_pos (by simp; omega) ?_)))
        refine ev_pos (by omega) (ev_pos (by omega) (ev_pos (by omega) (ev_pos (by omega) ?_)))
        rw [x2', y2', w64 (n := (i : Int) + 1) (by omega) (by omega), w64 (n := (j : Int) + 1) (by omega) (by omega)]
        have hl := step_lens (x := x) (y := y) (X := X) (Y := Y)
        simp only [List.length_cons] at hn
        simp only [mg]
        by_cases g : mn x.f0 y.f0 > e
        · rw [if_pos g, List.append_nil]
          exact ev_pos g (ev_const (finJ_end 0 out))
        · rw [if_neg g]
          refine ev_neg g (ev_pos (by omega) (ev_bind0 rfl ?_))
          have e1 : out ++ jn x y :: mg e n (if x.f0 = mn x.f0 y.f0 then X else x :: X) (if y.f0 = mn x.f0 y.f0 then Y else y :: Y) = (out ++ [jn x y]) ++ mg e n (if x.f0 = mn x.f0 y.f0 then X else x :: X) (if y.f0 = mn x.f0 y.f0 then Y else y :: Y) := by simp
          rw [e1]
          by_cases gx : x.f0 = mn x.f0 y.f0
          · refine ev_pos gx ?_
            by_cases gy : y.f0 = mn x.f0 y.f0
            · refine ev_pos gy ?_
              rw [if_pos gx, if_pos gy] at hl ⊢
              exact ih X Y (i + 1) (j + 1) (out ++ [jn x y]) x3 y3 (by omega) (by simp; omega)
            · refine ev_neg gy ?_
              rw [if_pos gx, if_neg gy] at hl ⊢
              exact ih X (y :: Y) (i + 1) j (out ++ [jn x y]) x3 hY (by omega) (by simp; omega)
          · refine ev_neg gx ?_
            by_cases gy : y.f0 = mn x.f0 y.f0
            · refine ev_pos gy ?_
              rw [if_neg gx, if_pos gy] at hl ⊢
              exact ih (x :: X) Y i (j + 1) (out ++ [jn x y]) hX y3 (by omega) (by simp; omega)
            · exact absurd (mn_le x.f0 y.f0).2.2 (by omega)
theorem impl_JoinProfiles_ev (a b : List S55) (ha : a.length ≤ 4611686018427387904) (hb : b.length ≤ 4611686018427387904) : Ev (fun k => impl_JoinProfiles.f k a b) (joinM a b) := by
  have p1 := impl_IsProfile_ev a ha
  have p2 := impl_IsProfile_ev b hb
  unfold joinM
  by_cases g1 : profB a = true
  · by_cases g2 : profB b = true
    · rw [if_pos ⟨g1, g2⟩]
      obtain ⟨_, a2, a3⟩ := profB_inc g1
      obtain ⟨_, b2, b3⟩ := profB_inc g2
      have al : 0 < a.length := List.length_pos_iff.2 a2
      have bl : 0 < b.length := List.length_pos_iff.2 b2
      refine p1.bind (ev_pos g1 (p2.bind (Ev.step (fun k => impl_JoinProfiles.j0.eq_2 ..) (ev_neg (by rw [g2]; decide) ?_))))
      rw [w64 (n := (a.length : Int) - 1) (by omega) (by omega), w64 (n := (b.length : Int) - 1) (by omega) (by omega)]
      refine ev_pos (by omega) (ev_pos (by omega) (ev_pos (by omega) (ev_pos (by omega) ?_)))
      have h := impl_Join_l0 a b (by omega) (by omega) (endJ a b) (a.length + b.length) a b 0 0 [] rfl rfl (Nat.le_refl _) (by simp; omega)
      rw [List.nil_append] at h
      exact h
    · rw [if_neg (fun h => g2 h.2)]
      have g2' : profB b = false := by simpa using g2
      exact p1.bind (ev_pos g1 (p2.bind (Ev.step (fun k => impl_JoinProfiles.j0.eq_2 ..) (ev_pos (by rw [g2']; rfl) (Ev.now _)))))
  · rw [if_neg (fun h => g1 h.1)]
    exact p1.bind (ev_neg g1 (Ev.step (fun k => impl_JoinProfiles.j0.eq_2 ..) (ev_pos rfl (Ev.now _))))
theorem joinM_len (a b : List S55) : (joinM a b).1.length ≤ 6 := by
  unfold joinM
  split
  · unfold finJ
    split
    · simp
    · dsimp only; omega
  · simp

/-! ### slices laid out with room behind -/
theorem room_some (n : Nat) (h : n ≤ 1000000000) : ∃ t, laws_roomBehind.f (n : Int) = some t ∧ 0 ≤ t ∧ t ≤ 1000000000 := by
  unfold laws_roomBehind.f
  split
  · exact ⟨_, rfl, by omega, by omega⟩
  · split
    · exact ⟨_, rfl, by omega, by omega⟩
    · exact ⟨_, rfl, by omega, by omega⟩
theorem take_set_ge {α : Type} (x : List α) (n j : Nat) (v : α) (h : n ≤ j) : (x.set j v).take n = x.take n := by
  rw [List.take_set, List.set_eq_of_length_le (by rw [List.length_take]; omega)]
theorem take_set_next {α : Type} (x l : List α) (i : Nat) (c : α) (hi : i < x.length) (hc : l[i]? = some c) (h : x.take i = l.take i) : (x.set i c).take (i + 1) = l.take (i + 1) := by
  obtain ⟨y, hy⟩ : ∃ y, x[i]? = some y := ⟨x[i], List.getElem?_eq_getElem hi⟩
  have hl : (x.set i c)[i]? = some c := by rw [List.getElem?_set_self hi]
  rw [List.take_add_one, List.take_add_one, hl, hc, take_set_ge _ _ _ _ (Nat.le_refl i), h]

/-! ### layers -/
def cvL (x : S64) : S55 := ⟨x.f0, x.f1, x.f2⟩
theorem rd64 {l : List S64} {i : Nat} {c : S64} (h : rdOf z64 l (i : Int) = c) : (⟨(rd_T64 l i).f0, (rd_T64 l i).f1, (rd_T64 l i).f2⟩ : S55) = cvL c := by rw [← h]; rfl
theorem eqLayerS_l0 (l : List S55) (hl : l.length ≤ 4611686018427387904) : ∀ (R : List S55) (i : Nat), l.drop i = R → Ev (fun k => laws_eqLayerS.l0 k l l i) true := by
  intro R
  induction R with
  | nil =>
    intro i h
    have := drop_nil h
    exact Ev.step (fun k => laws_eqLayerS.l0.eq_2 ..) (ev_neg (by omega) (Ev.now _))
  | cons c R ih =>
    intro i h
    obtain ⟨h1, h2, h3⟩ := rdOf_drop (d := z55) h
    refine Ev.step (fun k => laws_eqLayerS.l0.eq_2 ..) (ev_pos (by omega) (ev_pos (by omega) (ev_pos (by omega) (ev_bind0 (b := true) (by unfold laws_eqLayer.f; simp) (ev_pos rfl ?_)))))
    rw [w64 (n := (i : Int) + 1) (by omega) (by omega)]
    exact ih (i + 1) h3
theorem eqLayerS_ev (l : List S55) (hl : l.length ≤ 4611686018427387904) : Ev (fun k => laws_eqLayerS.f k l l) true := by
  have h := eqLayerS_l0 l hl l 0 rfl
  exact ev_pos rfl h
theorem toLayerSF_l1 (l : List S64) (hl : l.length ≤ 1000000000) : ∀ (d : Nat) (x : List S55) (j : Nat), x.length - j = d → x.length ≤ 3000000000 → l.length ≤ j → j ≤ x.length → x.take l.length = l.map cvL →
    ∃ L, Ev (fun k => laws_toLayerSF.l1 k l x (j : Int)) L ∧ L.length = x.length ∧ L.take l.length = l.map cvL := by
  intro d
  induction d with
  | zero =>
    intro x j hd hx hj hjx ht
    exact ⟨x, Ev.step (fun k => laws_toLayerSF.l1.eq_2 ..) (ev_neg (by omega) (ev_pos (by omega) (ev_pos (by omega) (Ev.now _)))), rfl, ht⟩
  | succ d ih =>
    intro x j hd hx hj hjx ht
    obtain ⟨L, e, h1, h2⟩ := ih (x.set j (⟨(-7000000000000000101), (-7000000000000000101), (-7000000000000000101)⟩ : S55)) (j + 1) (by rw [List.length_set]; omega) (by rw [List.length_set]; omega) (by omega) (by rw [List.length_set]; omega) (by rw [take_set_ge _ _ _ _ hj, ht])
    refine ⟨L, Ev.step (fun k => laws_toLayerSF.l1.eq_2 ..) (ev_pos (by omega) (ev_bind0 rfl (ev_pos (by omega) ?_))), by rw [h1, List.length_set], h2⟩
    dsimp only
    rw [Int.toNat_natCast, w64 (n := (j : Int) + 1) (by omega) (by omega)]
    exact e
theorem toLayerSF_l0 (l : List S64) (hl : l.length ≤ 1000000000) : ∀ (R : List S64) (i : Nat) (x : List S55), l.drop i = R → i ≤ l.length → l.length ≤ x.length → x.length ≤ 3000000000 → x.take i = (l.map cvL).take i →
    ∃ L, Ev (fun k => laws_toLayerSF.l0 k l x (i : Int)) L ∧ L.length = x.length ∧ L.take l.length = l.map cvL := by
  intro R
  induction R with
  | nil =>
    intro i x h hi hx hx' ht
    have h1 := drop_nil h
    obtain ⟨L, e, h2⟩ := toLayerSF_l1 l hl (x.length - l.length) x l.length rfl hx' (Nat.le_refl _) hx (by rw [show l.length = i by omega, ht, List.take_of_length_le (by rw [List.length_map]; exact h1)])
    exact ⟨L, Ev.step (fun k => laws_toLayerSF.l0.eq_2 ..) (ev_neg (by omega) e), h2⟩
  | cons c R ih =>
    intro i x h hi hx hx' ht
    obtain ⟨h1, h2, h3⟩ := rdOf_drop (d := z64) h
    obtain ⟨_, hc, _⟩ := drop_cons h
    obtain ⟨L, e, h4, h5⟩ := ih (i + 1) (x.set i (cvL c)) h3 (by omega) (by rw [List.length_set]; omega) (by rw [List.length_set]; omega) (take_set_next x (l.map cvL) i (cvL c) (by omega) (by rw [List.getElem?_map, hc]; rfl) ht)
    refine ⟨L, Ev.step (fun k => laws_toLayerSF.l0.eq_2 ..) (ev_pos (by omega) (ev_pos (by omega) (ev_bind0 rfl (ev_pos (by omega) ?_)))), by rw [h4, List.length_set], h5⟩
    dsimp only
    rw [rd64 h2, Int.toNat_natCast, w64 (n := (i : Int) + 1) (by omega) (by omega)]
    exact e
theorem toLayerSF_ev (l : List S64) (hl : l.length ≤ 1000000000) {t : Int} (ht : laws_roomBehind.f (l.length : Int) = some t) (t0 : 0 ≤ t) (t1 : t ≤ 1000000000) : ∃ L, Ev (fun k => laws_toLayerSF.f k l false) L ∧ (L.length : Int) = l.length + t ∧ L.take l.length = l.map cvL := by
  obtain ⟨L, e, h1, h2⟩ := toLayerSF_l0 l hl l 0 (List.replicate ((l.length : Int) + t).toNat z55) rfl (by omega) (by rw [List.length_replicate]; omega) (by rw [List.length_replicate]; omega) (by simp)
  rw [List.length_replicate] at h1
  refine ⟨L, ?_, by omega, h2⟩
  refine ev_neg (by decide) (Ev.step (fun k => laws_toLayerSF.j0.eq_2 ..) (ev_neg (by decide) (ev_bind0 ht ?_)))
  rw [w64 (n := (l.length : Int) + t) (by omega) (by omega)]
  exact ev_pos (by omega) (ev_pos (by omega) e)
/-! #### the same, its room forgotten -/
theorem toLayerS_l1 (l : List S64) (hl : l.length ≤ 1000000000) : ∀ (d : Nat) (x : List S55) (j : Nat), x.length - j = d → x.length ≤ 3000000000 → l.length ≤ j → j ≤ x.length → x.take l.length = l.map cvL →
    Ev (fun k => laws_toLayerS.l1 k l x (j : Int)) (l.map cvL) := by
  intro d
  induction d with
  | zero =>
    intro x j hd hx hj hjx ht
    exact Ev.step (fun k => laws_toLayerS.l1.eq_2 ..) (ev_neg (by omega) (ev_pos (by omega) (ev_pos (by omega) (ev_ret (by rw [Int.toNat_natCast, ht])))))
  | succ d ih =>
    intro x j hd hx hj hjx ht
    have e := ih (x.set j (⟨(-7000000000000000101), (-7000000000000000101), (-7000000000000000101)⟩ : S55)) (j + 1) (by rw [List.length_set]; omega) (by rw [List.length_set]; omega) (by omega) (by rw [List.length_set]; omega) (by rw [take_set_ge _ _ _ _ hj, ht])
    refine Ev.step (fun k => laws_toLayerS.l1.eq_2 ..) (ev_pos (by omega) (ev_bind0 rfl (ev_pos (by omega) ?_)))
    dsimp only
    rw [Int.toNat_natCast, w64 (n := (j : Int) + 1) (by omega) (by omega)]
    exact e
theorem toLayerS_l0 (l : List S64) (hl : l.length ≤ 1000000000) : ∀ (R : List S64) (i : Nat) (x : List S55), l.drop i = R → i ≤ l.length → l.length ≤ x.length → x.length ≤ 3000000000 → x.take i = (l.map cvL).take i →
    Ev (fun k => laws_toLayerS.l0 k l x (i : Int)) (l.map cvL) := by
  intro R
  induction R with
  | nil =>
    intro i x h hi hx hx' ht
    have h1 := drop_nil h
    have e := toLayerS_l1 l hl (x.length - l.length) x l.length rfl hx' (Nat.le_refl _) hx (by rw [show l.length = i by omega, ht, List.take_of_length_le (by rw [List.length_map]; exact h1)])
    exact Ev.step (fun k => laws_toLayerS.l0.eq_2 ..) (ev_neg (by omega) e)
  | cons c R ih =>
    intro i x h hi hx hx' ht
    obtain ⟨h1, h2, h3⟩ := rdOf_drop (d := z64) h
    obtain ⟨_, hc, _⟩ := drop_cons h
    have e := ih (i + 1) (x.set i (cvL c)) h3 (by omega) (by rw [List.length_set]; omega) (by rw [List.length_set]; omega) (take_set_next x (l.map cvL) i (cvL c) (by omega) (by rw [List.getElem?_map, hc]; rfl) ht)
    refine Ev.step (fun k => laws_toLayerS.l0.eq_2 ..) (ev_pos (by omega) (ev_pos (by omega) (ev_bind0 rfl (ev_pos (by omega) ?_))))
    dsimp only
    rw [rd64 h2, Int.toNat_natCast, w64 (n := (i : Int) + 1) (by omega) (by omega)]
    exact e
theorem toLayerS_bare (l : List S64) (hl : l.length ≤ 1000000000) : Ev (fun k => laws_toLayerS.f k l true) (l.map cvL) := by
  refine ev_pos rfl (Ev.step (fun k => laws_toLayerS.j0.eq_2 ..) ?_)
  by_cases a : l.length = 0
  · exact ev_pos (by simp [a]) (ev_ret (by rw [List.length_eq_zero_iff.1 a]; rfl))
  · obtain ⟨t, et, t0, t1⟩ := room_some l.length hl
    refine ev_neg (by simp; intro h; simp [h] at a) (ev_bind0 et ?_)
    rw [w64 (n := (l.length : Int) + t) (by omega) (by omega)]
    refine ev_pos (by omega) (ev_pos (by omega) ?_)
    exact toLayerS_l0 l hl l 0 (List.replicate ((l.length : Int) + t).toNat z55) rfl (by omega) (by rw [List.length_replicate]; omega) (by rw [List.length_replicate]; omega) (by simp)

/-! ### layers marked and held -/
theorem setM {α : Type} (P R : List α) (c m : α) : (P ++ c :: R).set ((P.length : Int)).toNat m = P ++ m :: R := by
  rw [Int.toNat_natCast, List.set_append_right _ _ (by omega)]; simp
theorem rdM (P R : List S55) (c : S55) : rd_T55 (P ++ c :: R) (P.length : Int) = c := by
  unfold rd_T55; simp
def mkL (m : Int) : Nat → List S55
  | 0 => []
  | n + 1 => ⟨m, m + 1, m + 2⟩ :: mkL (m + 3) n
theorem mkL_len : ∀ (n : Nat) (m : Int), (mkL m n).length = n
  | 0, _ => rfl
  | n + 1, m => by simp [mkL, mkL_len n]
theorem markLayerS_l0 : ∀ (R P : List S55) (m : Int), 0 ≤ m → m + 3 * R.length ≤ 4611686018427387904 → P.length + R.length ≤ 4611686018427387904 →
    Ev (fun k => laws_markLayerS.l0 k (P ++ R) m P.length) (m + 3 * R.length, P ++ mkL m R.length) := by
  intro R
  induction R with
  | nil =>
    intro P m h0 h1 h2
    refine Ev.step (fun k => laws_markLayerS.l0.eq_2 ..) (ev_neg (by simp) (ev_ret ?_))
    simp [mkL]
  | cons c R ih =>
    intro P m h0 h1 h2
    simp only [List.length_cons] at h1 h2
    refine Ev.step (fun k => laws_markLayerS.l0.eq_2 ..) (ev_pos (by simp; omega) (ev_pos (by omega) (ev_bind0 rfl (ev_bind0 rfl ?_))))
    have := ih (P ++ [⟨m, m + 1, m + 2⟩]) (m + 3) (by omega) (by omega) (by simp; omega)
    simp only [rdM, setM]
    rw [w64 (n := m + 1) (by omega) (by omega), w64 (n := m + 1 + 1) (by omega) (by omega), w64 (n := m + 1 + 1 + 1) (by omega) (by omega), w64 (n := (P.length : Int) + 1) (by omega) (by omega), show m + 1 + 1 = m + 2 by omega, show m + 2 + 1 = m + 3 by omega]
    simp only [List.length_append, List.length_singleton, List.append_assoc, List.singleton_append] at this
    rw [show m + 3 * ((c :: R).length : Int) = m + 3 + 3 * (R.length : Int) by simp; omega]
    exact this
theorem markLayerS_ev (l : List S55) {m : Int} (h0 : 0 ≤ m) (h1 : m + 3 * l.length ≤ 4611686018427387904) : Ev (fun k => laws_markLayerS.f k l m) (m + 3 * l.length, mkL m l.length) := by
  have := markLayerS_l0 l [] m h0 h1 (by simp; omega)
  have h : Ev (fun k => laws_markLayerS.l0 k l m 0) (m + 3 * l.length, mkL m l.length) := by simpa using this
  exact h
theorem heldLayerS_l0 : ∀ (n : Nat) (P : List S55) (m : Int), 0 ≤ m → m + 3 * n ≤ 4611686018427387904 → P.length + n ≤ 4611686018427387904 →
    Ev (fun k => laws_heldLayerS.l0 k (P ++ mkL m n) m P.length) (m + 3 * n) := by
  intro n
  induction n with
  | zero =>
    intro P m h0 h1 h2
    exact Ev.step (fun k => laws_heldLayerS.l0.eq_2 ..) (ev_neg (by simp [mkL]) (ev_ret (by simp)))
  | succ n ih =>
    intro P m h0 h1 h2
    have hr : rd_T55 (P ++ mkL m (n + 1)) (P.length : Int) = ⟨m, m + 1, m + 2⟩ := rdM P (mkL (m + 3) n) _
    have hl : (P ++ mkL m (n + 1)).length = P.length + (n + 1) := by rw [List.length_append, mkL_len]
    refine Ev.step (fun k => laws_heldLayerS.l0.eq_2 ..) (ev_pos (by omega) (ev_pos (by omega) ?_))
    rw [hr, w64 (n := m + 1) (by omega) (by omega), w64 (n := m + 1 + 1) (by omega) (by omega), w64 (n := m + 1 + 1 + 1) (by omega) (by omega), w64 (n := (P.length : Int) + 1) (by omega) (by omega)]
    refine ev_pos rfl (ev_pos rfl (ev_pos (by dsimp only; omega) ?_))
    have := ih (P ++ [⟨m, m + 1, m + 2⟩]) (m + 3) (by omega) (by omega) (by simp; omega)
    simp only [List.length_append, List.length_singleton, List.append_assoc, List.singleton_append] at this
    rw [show m + 3 * ((n + 1 : Nat) : Int) = m + 3 + 3 * (n : Int) by omega, show m + 1 + 1 + 1 = m + 3 by omega]
    exact this
theorem heldLayerS_ev {n : Nat} {m : Int} (h0 : 0 ≤ m) (h1 : m + 3 * n ≤ 4611686018427387904) : Ev (fun k => laws_heldLayerS.f k (mkL m n) m) (m + 3 * n) := by
  have := heldLayerS_l0 n [] m h0 h1 (by simp; omega)
  have h : Ev (fun k => laws_heldLayerS.l0 k (mkL m n) m 0) (m + 3 * n) := by simpa using this
  exact h

theorem maxLen_eq : maxLen ≤ 9223372036854775807 := by unfold maxLen; decide
theorem takeC {w : World} {A : Option Addr} {n : Nat} {M L : List S55} (hLt : L.take n = M) (hM : M.length = n) (hLl : n ≤ L.length) (h : Kd.C k55 w A L.length L) : Kd.C k55 w A M.length M := by
  have := Kd.C_take (m := n) h hLl
  rwa [hLt] at this
theorem takeR {w : World} {b c : Nat} {ok : Nat → Prop} {A : Option Addr} {n : Nat} {M L : List S55} (hLt : L.take n = M) (hM : M.length = n) (hLl : n ≤ L.length) (h : Kd.R k55 55 w b ok (.slice A L.length c) L) : Kd.R k55 55 w b (fun k_ => some k_ = (.slice A n c : Value).ownBlock) (.slice A n c) M := by
  have := Kd.R_take (m := n) h hLl
  rw [hLt] at this
  exact Kd.R_tight rfl this
theorem ne_base {α : Type} {β : Type} {d : Kd α} {d' : Kd β} {e e' b : Nat} {ok ok' : Nat → Prop} {w w1 : World} {u v : Value} {xs : List α} {ys : List β} (hu : d.R e w b ok u xs) (hv : d'.R e' w1 w.heap.size ok' v ys) : ∀ k, u.ownBlock = some k → some k ≠ v.ownBlock := by
  intro k hk he
  have h1 := ((Kd.R_bound hu).1 k hk).2.2.1
  have h2 := ((Kd.R_bound hv).1 k he.symm).2.1
  omega
theorem own_same (A : Option Addr) (n m c : Nat) : (Value.slice A n c).ownBlock = (Value.slice A m c).ownBlock := by cases A <;> rfl
theorem R_keptT {α : Type} {d : Kd α} {e b : Nat} {ok : Nat → Prop} {W W2 : World} {S : Nat → Prop} {v : Value} {xs : List α} (hE : d.E = []) (h : d.R e W b ok v xs) (hk : Kept W W2 S) (hne : ∀ k, v.ownBlock = some k → ¬ S k) : d.R e W2 b (fun _ => True) v xs :=
  Kd.R_mono (Kd.R_kept (Kd.R_tight hE h) hk (fun k hk2 => hne k hk2.symm)) (fun _ _ => trivial)
theorem drawn_below {w w' : World} (h : Drawn0 w w') : Below w.heap.size w w' := by
  obtain ⟨n, rfl⟩ := h
  exact pw_below_drewN (Below.refl _ _) n
set_option maxHeartbeats 40000000 in
set_option maxRecDepth 100000 in
theorem go (k : Nat) (A0 : Option Addr) (c0 : Nat) (l0 : List S64) (A1 : Option Addr) (c1 : Nat) (l1 : List S64) (r : List S55) (t : Int) (M0 L0 Mx0 : List S55) (z0 kx0 room0 : Int) (M1 L1 Mx1 : List S55) (z1 kx1 room1 : Int) (Mg : List S55) (km : Int) (w : World) (hr0 : Kd.C k64 w A0 l0.length l0) (hc0 : l0.length ≤ c0) (hr1 : Kd.C k64 w A1 l1.length l1) (hc1 : l1.length ≤ c1) (hn0 : l0.length ≤ 1000000) (hn1 : l1.length ≤ 1000000) (hsz0 : laws_szLayerS.f l0 1000000 = some z0) (hsz1 : laws_szLayerS.f l1 z0 = some z1) (hz0 : ¬ z0 < 0) (hM0 : M0.length = l0.length) (hfull0 : laws_toLayerSF.f k l0 false = some L0) (hLt0 : L0.take l0.length = M0) (hLl_0 : l0.length ≤ L0.length) (hLr0 : (L0.length : Int) = l0.length + room0) (hroom0 : laws_roomBehind.f (l0.length : Int) = some room0) (hr0_0 : 0 ≤ room0) (hr0_1 : room0 ≤ 1000000000000) (hbare0 : laws_toLayerS.f k l0 true = some M0) (heq0 : laws_eqLayerS.f k L0 L0 = some true) (hz1 : ¬ z1 < 0) (hM1 : M1.length = l1.length) (hfull1 : laws_toLayerSF.f k l1 false = some L1) (hLt1 : L1.take l1.length = M1) (hLl_1 : l1.length ≤ L1.length) (hLr1 : (L1.length : Int) = l1.length + room1) (hroom1 : laws_roomBehind.f (l1.length : Int) = some room1) (hr1_0 : 0 ≤ room1) (hr1_1 : room1 ≤ 1000000000000) (hbare1 : laws_toLayerS.f k l1 true = some M1) (heq1 : laws_eqLayerS.f k L1 L1 = some true) (hspec : spec_JoinProfiles.f k M0 M1 = some (r, t)) (himp : impl_JoinProfiles.f k M0 M1 = some (r, t)) (heqr : laws_eqLayerS.f k r r = some true) (hmx0 : laws_markLayerS.f k M0 101 = some (kx0, Mx0)) (hmx1 : laws_markLayerS.f k M1 kx0 = some (kx1, Mx1)) (hkx1 : 0 ≤ kx1) (hmg : laws_markLayerS.f k r 101 = some (km, Mg)) (hkm : 0 ≤ km) (hMl : Mg.length = r.length) (hhe : laws_heldLayerS.f k Mg 101 = some km) :
    Calls Try.prog 8 #[.slice A0 l0.length c0, .slice A1 l1.length c1] w fun e w' => e = .returned (.bool true) ∧ Below w.heap.size w w' := by
  have takeC0 : ∀ {w : World} {A : Option Addr}, Kd.C k55 w A L0.length L0 → Kd.C k55 w A M0.length M0 := takeC hLt0 hM0 hLl_0
  have hLl0 : M0.length ≤ L0.length := by omega
  have HR0 := Aside0.mk hr0
  have HC0 := Aside0.mk hc0
  have cz0 : decide (z0 < 0) = false := decide_eq_false hz0
  replace hn0 : l0.length ≤ 1000000000000 := by omega
  have takeC1 : ∀ {w : World} {A : Option Addr}, Kd.C k55 w A L1.length L1 → Kd.C k55 w A M1.length M1 := takeC hLt1 hM1 hLl_1
  have hLl1 : M1.length ≤ L1.length := by omega
  have HR1 := Aside0.mk hr1
  have HC1 := Aside0.mk hc1
  have cz1 : decide (z1 < 0) = false := decide_eq_false hz1
  replace hn1 : l1.length ≤ 1000000000000 := by omega
  have HB := Aside0.mk (Below.refl w.heap.size w)
  have c2b0 : decide (kx1 < 0) = false := decide_eq_false (by omega)
  have c3b0 : decide (km < 0) = false := decide_eq_false (by omega)
  have qt0 : (t == t) = true := by simp
  have qt1 : (t != t) = false := by simp
  have qm0 : (km == km) = true := by simp
  have qm1 : (km != km) = false := by simp
  have chspec : ∀ (A : Option Addr) (c : Nat) (B : Option Addr) (d : Nat) (w : World), Kd.C k55 w A M0.length M0 → M0.length ≤ c → Kd.C k55 w B M1.length M1 → M1.length ≤ d → Calls Try.prog 27 #[.slice A l0.length c, .slice B l1.length d] w fun e w' => ∃ v0_ : Value, e = .returned (.tuple #[v0_, .int .i64 t]) ∧ Kd.R k55 55 w' w.heap.size (fun _ => True) v0_ r ∧ Below w.heap.size w w' := by
    intro A c B d w h1 h2 h3 h4
    rw [← hM0, ← hM1]
    exact spec_JoinProfiles.calls k A c M0 B d M1 r t w h1 h2 h3 h4 hspec
  have chimpl : ∀ (A : Option Addr) (c : Nat) (B : Option Addr) (d : Nat) (w : World), Kd.C k55 w A M0.length M0 → M0.length ≤ c → Kd.C k55 w B M1.length M1 → M1.length ≤ d → Calls Try.prog 28 #[.slice A l0.length c, .slice B l1.length d] w fun e w' => ∃ v0_ : Value, e = .returned (.tuple #[v0_, .int .i64 t]) ∧ Kd.R k55 55 w' w.heap.size (fun _ => True) v0_ r ∧ Below w.heap.size w w' := by
    intro A c B d w h1 h2 h3 h4
    rw [← hM0, ← hM1]
    exact impl_JoinProfiles.calls k A c M0 B d M1 r t w h1 h2 h3 h4 himp
  have hheld : ∀ (A : Option Addr) (c : Nat) (w : World), Kd.C k55 w A Mg.length Mg → Mg.length ≤ c → Calls Try.prog 31 #[.slice A r.length c, .int .i64 101] w fun e w' => e = .returned (.int .i64 km) ∧ Drawn0 w w' := by
    intro A c w h1 h2
    rw [← hMl]
    exact laws_heldLayerS.calls k A c Mg 101 km w h1 h2 hhe
  clear hr0 hc0 hr1 hc1 hkx1 hkm hhe hz0 hz1
  go_enter Try.func8, Try.ntmps8
  go_wp2_with (first | ((with_reducible refine gate_callee (f := 14) rfl ?_); refine goesL_ (some 19) rfl rfl Try.func14 (by kernel_rfl) rfl #[.slice A0 l0.length c0, .int .i64 1000000] rfl (by (try simp only [List.map_toArray, List.map_cons, List.map_nil]); first | done | rfl | (simp only [List.length_drop, List.length_take]; rfl) | (go_simp; done) | (simp; done) | (simp; rfl)) ?_; (with_reducible refine (laws_szLayerS.calls _ _ l0 1000000 z0 _ ?side1 ?side2 hsz0).mono ?_); (case side1 => repeat (first | exact (Kd.C_below HR0.out (by repeat (first | (with_reducible first | exact HB.out | apply below_alloc | apply pw_below_drewN | apply below_drew1) | exact HB.out))) | (with_reducible refine Kd.C_alloc ?_ _) | (with_reducible refine Kd.C_drewN ?_ _) | (with_reducible refine Kd.C_drew ?_))); (case side2 => exact HC0.out); rintro e wo0 ⟨rfl, hd⟩; have hb := drawn_below hd; clear hd; refine ⟨_, rfl, ?_⟩; have nb_ := Aside0.mk (below_step (by repeat (first | (with_reducible first | exact HB.out | apply below_alloc | apply pw_below_drewN | apply below_drew1) | exact HB.out)) hb); clear HB; have HB := nb_; clear nb_; clear hb) | ((with_reducible refine gate_callee (f := 14) rfl ?_); refine goesL_ (some 24) rfl rfl Try.func14 (by kernel_rfl) rfl #[.slice A1 l1.length c1, .int .i64 z0] rfl (by (try simp only [List.map_toArray, List.map_cons, List.map_nil]); first | done | rfl | (simp only [List.length_drop, List.length_take]; rfl) | (go_simp; done) | (simp; done) | (simp; rfl)) ?_; (with_reducible refine (laws_szLayerS.calls _ _ l1 z0 z1 _ ?side1 ?side2 hsz1).mono ?_); (case side1 => repeat (first | exact (Kd.C_below HR1.out (by repeat (first | (with_reducible first | exact HB.out | apply below_alloc | apply pw_below_drewN | apply below_drew1) | exact HB.out))) | (with_reducible refine Kd.C_alloc ?_ _) | (with_reducible refine Kd.C_drewN ?_ _) | (with_reducible refine Kd.C_drew ?_))); (case side2 => exact HC1.out); rintro e wo1 ⟨rfl, hd⟩; have hb := drawn_below hd; clear hd; refine ⟨_, rfl, ?_⟩; have nb_ := Aside0.mk (below_step (by repeat (first | (with_reducible first | exact HB.out | apply below_alloc | apply pw_below_drewN | apply below_drew1) | exact HB.out)) hb); clear HB; have HB := nb_; clear nb_; clear hb) | ((with_reducible refine gate_callee (f := 16) rfl ?_); refine goesL_ (some 29) rfl rfl Try.func16 (by kernel_rfl) rfl #[.slice A0 l0.length c0, .bool false] rfl (by (try simp only [List.map_toArray, List.map_cons, List.map_nil]); first | done | rfl | (simp only [List.length_drop, List.length_take]; rfl) | (go_simp; done) | (simp; done) | (simp; rfl)) ?_; (with_reducible refine (laws_toLayerSF.calls k _ _ l0 false L0 _ ?side1 ?side2 hfull0).mono ?_); (case side1 => repeat (first | exact (Kd.C_below HR0.out (by repeat (first | (with_reducible first | exact HB.out | apply below_alloc | apply pw_below_drewN | apply below_drew1) | exact HB.out))) | (with_reducible refine Kd.C_alloc ?_ _) | (with_reducible refine Kd.C_drewN ?_ _) | (with_reducible refine Kd.C_drew ?_))); (case side2 => exact HC0.out); rintro e wp ⟨Ap, cp, rfl, hR, _, hb⟩; refine ⟨_, rfl, ?_⟩; have HLp := Aside0.mk (Kd.R_reads' hR).2.1; have HKp := Aside0.mk (Kd.R_reads' hR).2.2; clear hR; have nb_ := Aside0.mk (below_step (by repeat (first | (with_reducible first | exact HB.out | apply below_alloc | apply pw_below_drewN | apply below_drew1) | exact HB.out)) hb); clear HB; have HB := nb_; clear nb_; clear hb) | ((with_reducible refine gate_callee (f := 16) rfl ?_); refine goesL_ (some 31) rfl rfl Try.func16 (by kernel_rfl) rfl #[.slice A1 l1.length c1, .bool false] rfl (by (try simp only [List.map_toArray, List.map_cons, List.map_nil]); first | done | rfl | (simp only [List.length_drop, List.length_take]; rfl) | (go_simp; done) | (simp; done) | (simp; rfl)) ?_; (with_reducible refine (laws_toLayerSF.calls k _ _ l1 false L1 _ ?side1 ?side2 hfull1).mono ?_); (case side1 => repeat (first | exact (Kd.C_below HR1.out (by repeat (first | (with_reducible first | exact HB.out | apply below_alloc | apply pw_below_drewN | apply below_drew1) | exact HB.out))) | (with_reducible refine Kd.C_alloc ?_ _) | (with_reducible refine Kd.C_drewN ?_ _) | (with_reducible refine Kd.C_drew ?_))); (case side2 => exact HC1.out); rintro e wq ⟨Aq, cq, rfl, hR, _, hb⟩; refine ⟨_, rfl, ?_⟩; have HLq := Aside0.mk (Kd.R_reads' hR).2.1; have HKq := Aside0.mk (Kd.R_reads' hR).2.2; clear hR; have n0_ := Aside0.mk (Kd.C_below (by repeat (first | exact HKp.out | (with_reducible refine Kd.C_alloc ?_ _) | (with_reducible refine Kd.C_drewN ?_ _) | (with_reducible refine Kd.C_drew ?_))) hb); have nb_ := Aside0.mk (below_step (by repeat (first | (with_reducible first | exact HB.out | apply below_alloc | apply pw_below_drewN | apply below_drew1) | exact HB.out)) hb); clear HKp; clear HB; have HKp := n0_; have HB := nb_; clear n0_ nb_; clear hb) | ((with_reducible refine gate_callee (f := 27) rfl ?_); refine goesL_ (some 32) rfl rfl Try.func27 (by kernel_rfl) rfl #[.slice Ap l0.length cp, .slice Aq l1.length cq] rfl (by (try simp only [List.map_toArray, List.map_cons, List.map_nil]); first | done | rfl | (simp only [List.length_drop, List.length_take]; rfl) | (go_simp; done) | (simp; done) | (simp; rfl)) ?_; (with_reducible refine (chspec _ _ _ _ _ ?side1 ?side2 ?side3 ?side4).mono ?_); (case side1 => repeat (first | exact (takeC0 HKp.out) | (with_reducible refine Kd.C_alloc ?_ _) | (with_reducible refine Kd.C_drewN ?_ _) | (with_reducible refine Kd.C_drew ?_))); (case side2 => exact (Nat.le_trans hLl0 HLp.out)); (case side3 => repeat (first | exact (takeC1 HKq.out) | (with_reducible refine Kd.C_alloc ?_ _) | (with_reducible refine Kd.C_drewN ?_ _) | (with_reducible refine Kd.C_drew ?_))); (case side4 => exact (Nat.le_trans hLl1 HLq.out)); rintro e wq_ ⟨vw, rfl, hR, hb⟩; refine ⟨_, rfl, ?_⟩; obtain ⟨Aw, cw, ew⟩ := Kd.R_slice hR; subst ew; have HW := Aside0.mk (Kd.R_lower hR (below_size (by repeat (first | (with_reducible first | exact HB.out | apply below_alloc | apply pw_below_drewN | apply below_drew1) | exact HB.out)))); clear hR; have n0_ := Aside0.mk (Kd.C_below (by repeat (first | exact HKp.out | (with_reducible refine Kd.C_alloc ?_ _) | (with_reducible refine Kd.C_drewN ?_ _) | (with_reducible refine Kd.C_drew ?_))) hb); have n1_ := Aside0.mk (Kd.C_below (by repeat (first | exact HKq.out | (with_reducible refine Kd.C_alloc ?_ _) | (with_reducible refine Kd.C_drewN ?_ _) | (with_reducible refine Kd.C_drew ?_))) hb); have nb_ := Aside0.mk (below_step (by repeat (first | (with_reducible first | exact HB.out | apply below_alloc | apply pw_below_drewN | apply below_drew1) | exact HB.out)) hb); clear HKp; clear HKq; clear HB; have HKp := n0_; have HKq := n1_; have HB := nb_; clear n0_ n1_ nb_; clear hb) | ((with_reducible refine gate_callee (f := 16) rfl ?_); refine goesL_ (some 36) rfl rfl Try.func16 (by kernel_rfl) rfl #[.slice A0 l0.length c0, .bool false] rfl (by (try simp only [List.map_toArray, List.map_cons, List.map_nil]); first | done | rfl | (simp only [List.length_drop, List.length_take]; rfl) | (go_simp; done) | (simp; done) | (simp; rfl)) ?_; (with_reducible refine (laws_toLayerSF.calls k _ _ l0 false L0 _ ?side1 ?side2 hfull0).mono ?_); (case side1 => repeat (first | exact (Kd.C_below HR0.out (by repeat (first | (with_reducible first | exact HB.out | apply below_alloc | apply pw_below_drewN | apply below_drew1) | exact HB.out))) | (with_reducible refine Kd.C_alloc ?_ _) | (with_reducible refine Kd.C_drewN ?_ _) | (with_reducible refine Kd.C_drew ?_))); (case side2 => exact HC0.out); rintro e wx0 ⟨Ax0, cx0, rfl, hR, _, hb⟩; refine ⟨_, rfl, ?_⟩; have HLx0 := Aside0.mk (Kd.R_reads' hR).2.1; have NWX0 := Aside0.mk (ne_base (by (with_reducible repeat (first | apply Kd.R_alloc | apply Kd.R_drewN | apply Kd.R_drew)); exact HW.out) hR); have HX0 := Aside0.mk (Kd.R_lower hR (below_size (by repeat (first | (with_reducible first | exact HB.out | apply below_alloc | apply pw_below_drewN | apply below_drew1) | exact HB.out)))); clear hR; have n0_ := Aside0.mk (Kd.R_below (by (with_reducible repeat (first | apply Kd.R_alloc | apply Kd.R_drewN | apply Kd.R_drew)); exact HW.out) hb); have nb_ := Aside0.mk (below_step (by repeat (first | (with_reducible first | exact HB.out | apply below_alloc | apply pw_below_drewN | apply below_drew1) | exact HB.out)) hb); clear HW; clear HB; have HW := n0_; have HB := nb_; clear n0_ nb_; clear hb) | ((with_reducible refine gate_callee (f := 16) rfl ?_); refine goesL_ (some 38) rfl rfl Try.func16 (by kernel_rfl) rfl #[.slice A1 l1.length c1, .bool false] rfl (by (try simp only [List.map_toArray, List.map_cons, List.map_nil]); first | done | rfl | (simp only [List.length_drop, List.length_take]; rfl) | (go_simp; done) | (simp; done) | (simp; rfl)) ?_; (with_reducible refine (laws_toLayerSF.calls k _ _ l1 false L1 _ ?side1 ?side2 hfull1).mono ?_); (case side1 => repeat (first | exact (Kd.C_below HR1.out (by repeat (first | (with_reducible first | exact HB.out | apply below_alloc | apply pw_below_drewN | apply below_drew1) | exact HB.out))) | (with_reducible refine Kd.C_alloc ?_ _) | (with_reducible refine Kd.C_drewN ?_ _) | (with_reducible refine Kd.C_drew ?_))); (case side2 => exact HC1.out); rintro e wx1 ⟨Ax1, cx1, rfl, hR, _, hb⟩; refine ⟨_, rfl, ?_⟩; have HLx1 := Aside0.mk (Kd.R_reads' hR).2.1; have NWX1 := Aside0.mk (ne_base (by (with_reducible repeat (first | apply Kd.R_alloc | apply Kd.R_drewN | apply Kd.R_drew)); exact HW.out) hR); have NX01 := Aside0.mk (ne_base (by (with_reducible repeat (first | apply Kd.R_alloc | apply Kd.R_drewN | apply Kd.R_drew)); exact HX0.out) hR); have HX1 := Aside0.mk (Kd.R_lower hR (below_size (by repeat (first | (with_reducible first | exact HB.out | apply below_alloc | apply pw_below_drewN | apply below_drew1) | exact HB.out)))); clear hR; have n0_ := Aside0.mk (Kd.R_below (by (with_reducible repeat (first | apply Kd.R_alloc | apply Kd.R_drewN | apply Kd.R_drew)); exact HW.out) hb); have n1_ := Aside0.mk (Kd.R_below (by (with_reducible repeat (first | apply Kd.R_alloc | apply Kd.R_drewN | apply Kd.R_drew)); exact HX0.out) hb); have nb_ := Aside0.mk (below_step (by repeat (first | (with_reducible first | exact HB.out | apply below_alloc | apply pw_below_drewN | apply below_drew1) | exact HB.out)) hb); clear HW; clear HX0; clear HB; have HW := n0_; have HX0 := n1_; have HB := nb_; clear n0_ n1_ nb_; clear hb) | ((with_reducible refine gate_callee (f := 28) rfl ?_); refine goesL_ (some 42) rfl rfl Try.func28 (by kernel_rfl) rfl #[.slice Ax0 l0.length cx0, .slice Ax1 l1.length cx1] rfl (by (try simp only [List.map_toArray, List.map_cons, List.map_nil]); first | done | rfl | (simp only [List.length_drop, List.length_take]; rfl) | (go_simp; done) | (simp; done) | (simp; rfl)) ?_; (with_reducible refine (chimpl _ _ _ _ _ ?side1 ?side2 ?side3 ?side4).mono ?_); (case side1 => exact (takeC0 (Kd.R_reads' (by (with_reducible repeat (first | apply Kd.R_alloc | apply Kd.R_drewN | apply Kd.R_drew)); exact HX0.out)).2.2)); (case side2 => exact (Nat.le_trans hLl0 HLx0.out)); (case side3 => exact (takeC1 (Kd.R_reads' (by (with_reducible repeat (first | apply Kd.R_alloc | apply Kd.R_drewN | apply Kd.R_drew)); exact HX1.out)).2.2)); (case side4 => exact (Nat.le_trans hLl1 HLx1.out)); rintro e wr ⟨vg, rfl, hR, hb⟩; refine ⟨_, rfl, ?_⟩; obtain ⟨Ag, cg, eg⟩ := Kd.R_slice hR; subst eg; have NWG := Aside0.mk (ne_base (by (with_reducible repeat (first | apply Kd.R_alloc | apply Kd.R_drewN | apply Kd.R_drew)); exact HW.out) hR); have NXG0 := Aside0.mk (ne_base (by (with_reducible repeat (first | apply Kd.R_alloc | apply Kd.R_drewN | apply Kd.R_drew)); exact HX0.out) hR); have NXG1 := Aside0.mk (ne_base (by (with_reducible repeat (first | apply Kd.R_alloc | apply Kd.R_drewN | apply Kd.R_drew)); exact HX1.out) hR); have HG := Aside0.mk (Kd.R_lower hR (below_size (by repeat (first | (with_reducible first | exact HB.out | apply below_alloc | apply pw_below_drewN | apply below_drew1) | exact HB.out)))); clear hR; have n0_ := Aside0.mk (Kd.R_below (by (with_reducible repeat (first | apply Kd.R_alloc | apply Kd.R_drewN | apply Kd.R_drew)); exact HW.out) hb); have n1_ := Aside0.mk (Kd.R_below (by (with_reducible repeat (first | apply Kd.R_alloc | apply Kd.R_drewN | apply Kd.R_drew)); exact HX0.out) hb); have n2_ := Aside0.mk (Kd.R_below (by (with_reducible repeat (first | apply Kd.R_alloc | apply Kd.R_drewN | apply Kd.R_drew)); exact HX1.out) hb); have nb_ := Aside0.mk (below_step (by repeat (first | (with_reducible first | exact HB.out | apply below_alloc | apply pw_below_drewN | apply below_drew1) | exact HB.out)) hb); clear HW; clear HX0; clear HX1; clear HB; have HW := n0_; have HX0 := n1_; have HX1 := n2_; have HB := nb_; clear n0_ n1_ n2_ nb_; clear hb) | ((with_reducible refine gate_callee (f := 29) rfl ?_); refine goesL_ (some 47) rfl rfl Try.func29 (by kernel_rfl) rfl #[.slice Ag r.length cg, .slice Aw r.length cw] rfl (by (try simp only [List.map_toArray, List.map_cons, List.map_nil]); first | done | rfl | (simp only [List.length_drop, List.length_take]; rfl) | (go_simp; done) | (simp; done) | (simp; rfl)) ?_; (with_reducible refine (laws_eqLayerS.calls k _ _ r _ _ r true _ ?side1 ?side2 ?side3 ?side4 heqr).mono ?_); (case side1 => exact (Kd.R_reads' (by (with_reducible repeat (first | apply Kd.R_alloc | apply Kd.R_drewN | apply Kd.R_drew)); exact HG.out)).2.2); (case side2 => exact (Kd.R_reads' HG.out).2.1); (case side3 => exact (Kd.R_reads' (by (with_reducible repeat (first | apply Kd.R_alloc | apply Kd.R_drewN | apply Kd.R_drew)); exact HW.out)).2.2); (case side4 => exact (Kd.R_reads' HW.out).2.1); rintro e we1 ⟨rfl, hb⟩; refine ⟨_, rfl, ?_⟩; have n0_ := Aside0.mk (Kd.R_below (by (with_reducible repeat (first | apply Kd.R_alloc | apply Kd.R_drewN | apply Kd.R_drew)); exact HW.out) hb); have n1_ := Aside0.mk (Kd.R_below (by (with_reducible repeat (first | apply Kd.R_alloc | apply Kd.R_drewN | apply Kd.R_drew)); exact HX0.out) hb); have n2_ := Aside0.mk (Kd.R_below (by (with_reducible repeat (first | apply Kd.R_alloc | apply Kd.R_drewN | apply Kd.R_drew)); exact HX1.out) hb); have n3_ := Aside0.mk (Kd.R_below (by (with_reducible repeat (first | apply Kd.R_alloc | apply Kd.R_drewN | apply Kd.R_drew)); exact HG.out) hb); have nb_ := Aside0.mk (below_step (by repeat (first | (with_reducible first | exact HB.out | apply below_alloc | apply pw_below_drewN | apply below_drew1) | exact HB.out)) hb); clear HW; clear HX0; clear HX1; clear HG; clear HB; have HW := n0_; have HX0 := n1_; have HX1 := n2_; have HG := n3_; have HB := nb_; clear n0_ n1_ n2_ n3_ nb_; clear hb) | ((with_reducible refine gate_callee (f := 16) rfl ?_); refine goesL_ (some 56) rfl rfl Try.func16 (by kernel_rfl) rfl #[.slice A0 l0.length c0, .bool false] rfl (by (try simp only [List.map_toArray, List.map_cons, List.map_nil]); first | done | rfl | (simp only [List.length_drop, List.length_take]; rfl) | (go_simp; done) | (simp; done) | (simp; rfl)) ?_; (with_reducible refine (laws_toLayerSF.calls k _ _ l0 false L0 _ ?side1 ?side2 hfull0).mono ?_); (case side1 => repeat (first | exact (Kd.C_below HR0.out (by repeat (first | (with_reducible first | exact HB.out | apply below_alloc | apply pw_below_drewN | apply below_drew1) | exact HB.out))) | (with_reducible refine Kd.C_alloc ?_ _) | (with_reducible refine Kd.C_drewN ?_ _) | (with_reducible refine Kd.C_drew ?_))); (case side2 => exact HC0.out); rintro e wy0 ⟨Ay0, cy0, rfl, hR, _, hb⟩; refine ⟨_, rfl, ?_⟩; have HLy0 := Aside0.mk (Kd.R_reads' hR).2.1; have HKy0 := Aside0.mk (Kd.R_reads' hR).2.2; clear hR; have n0_ := Aside0.mk (Kd.R_below (by (with_reducible repeat (first | apply Kd.R_alloc | apply Kd.R_drewN | apply Kd.R_drew)); exact HW.out) hb); have n1_ := Aside0.mk (Kd.R_below (by (with_reducible repeat (first | apply Kd.R_alloc | apply Kd.R_drewN | apply Kd.R_drew)); exact HX0.out) hb); have n2_ := Aside0.mk (Kd.R_below (by (with_reducible repeat (first | apply Kd.R_alloc | apply Kd.R_drewN | apply Kd.R_drew)); exact HX1.out) hb); have n3_ := Aside0.mk (Kd.R_below (by (with_reducible repeat (first | apply Kd.R_alloc | apply Kd.R_drewN | apply Kd.R_drew)); exact HG.out) hb); have nb_ := Aside0.mk (below_step (by repeat (first | (with_reducible first | exact HB.out | apply below_alloc | apply pw_below_drewN | apply below_drew1) | exact HB.out)) hb); clear HW; clear HX0; clear HX1; clear HG; clear HB; have HW := n0_; have HX0 := n1_; have HX1 := n2_; have HG := n3_; have HB := nb_; clear n0_ n1_ n2_ n3_ nb_; clear hb) | ((with_reducible refine gate_callee (f := 18) rfl ?_); refine goesL_ (some 57) rfl rfl Try.func18 (by kernel_rfl) rfl #[.slice Ax0 l0.length cx0, .slice Ay0 l0.length cy0] rfl (by (try simp only [List.map_toArray, List.map_cons, List.map_nil]); first | done | rfl | (simp only [List.length_drop, List.length_take]; rfl) | (go_simp; done) | (simp; done) | (simp; rfl)) ?_; (with_reducible refine (laws_intactLayerSF.calls k l0.length _ _ L0 _ _ L0 room0 _ ?side1 ?side2 ?side3 ?side4 hroom0 hn0 hr0_0 hr0_1 hLr0 hLr0 heq0).mono ?_); (case side1 => exact (Kd.R_reads' (by (with_reducible repeat (first | apply Kd.R_alloc | apply Kd.R_drewN | apply Kd.R_drew)); exact HX0.out)).2.2); (case side2 => exact HLx0.out); (case side3 => repeat (first | exact HKy0.out | (with_reducible refine Kd.C_alloc ?_ _) | (with_reducible refine Kd.C_drewN ?_ _) | (with_reducible refine Kd.C_drew ?_))); (case side4 => exact HLy0.out); rintro e ws0 ⟨rfl, hb⟩; refine ⟨_, rfl, ?_⟩; have n0_ := Aside0.mk (Kd.R_below (by (with_reducible repeat (first | apply Kd.R_alloc | apply Kd.R_drewN | apply Kd.R_drew)); exact HW.out) hb); have n1_ := Aside0.mk (Kd.R_below (by (with_reducible repeat (first | apply Kd.R_alloc | apply Kd.R_drewN | apply Kd.R_drew)); exact HX0.out) hb); have n2_ := Aside0.mk (Kd.R_below (by (with_reducible repeat (first | apply Kd.R_alloc | apply Kd.R_drewN | apply Kd.R_drew)); exact HX1.out) hb); have n3_ := Aside0.mk (Kd.R_below (by (with_reducible repeat (first | apply Kd.R_alloc | apply Kd.R_drewN | apply Kd.R_drew)); exact HG.out) hb); have n4_ := Aside0.mk (Kd.C_below (by repeat (first | exact HKy0.out | (with_reducible refine Kd.C_alloc ?_ _) | (with_reducible refine Kd.C_drewN ?_ _) | (with_reducible refine Kd.C_drew ?_))) hb); have nb_ := Aside0.mk (below_step (by repeat (first | (with_reducible first | exact HB.out | apply below_alloc | apply pw_below_drewN | apply below_drew1) | exact HB.out)) hb); clear HW; clear HX0; clear HX1; clear HG; clear HKy0; clear HB; have HW := n0_; have HX0 := n1_; have HX1 := n2_; have HG := n3_; have HKy0 := n4_; have HB := nb_; clear n0_ n1_ n2_ n3_ n4_ nb_; clear hb) | ((with_reducible refine gate_callee (f := 16) rfl ?_); refine goesL_ (some 61) rfl rfl Try.func16 (by kernel_rfl) rfl #[.slice A1 l1.length c1, .bool false] rfl (by (try simp only [List.map_toArray, List.map_cons, List.map_nil]); first | done | rfl | (simp only [List.length_drop, List.length_take]; rfl) | (go_simp; done) | (simp; done) | (simp; rfl)) ?_; (with_reducible refine (laws_toLayerSF.calls k _ _ l1 false L1 _ ?side1 ?side2 hfull1).mono ?_); (case side1 => repeat (first | exact (Kd.C_below HR1.out (by repeat (first | (with_reducible first | exact HB.out | apply below_alloc | apply pw_below_drewN | apply below_drew1) | exact HB.out))) | (with_reducible refine Kd.C_alloc ?_ _) | (with_reducible refine Kd.C_drewN ?_ _) | (with_reducible refine Kd.C_drew ?_))); (case side2 => exact HC1.out); rintro e wy1 ⟨Ay1, cy1, rfl, hR, _, hb⟩; refine ⟨_, rfl, ?_⟩; have HLy1 := Aside0.mk (Kd.R_reads' hR).2.1; have HKy1 := Aside0.mk (Kd.R_reads' hR).2.2; clear hR; have n0_ := Aside0.mk (Kd.R_below (by (with_reducible repeat (first | apply Kd.R_alloc | apply Kd.R_drewN | apply Kd.R_drew)); exact HW.out) hb); have n1_ := Aside0.mk (Kd.R_below (by (with_reducible repeat (first | apply Kd.R_alloc | apply Kd.R_drewN | apply Kd.R_drew)); exact HX0.out) hb); have n2_ := Aside0.mk (Kd.R_below (by (with_reducible repeat (first | apply Kd.R_alloc | apply Kd.R_drewN | apply Kd.R_drew)); exact HX1.out) hb); have n3_ := Aside0.mk (Kd.R_below (by (with_reducible repeat (first | apply Kd.R_alloc | apply Kd.R_drewN | apply Kd.R_drew)); exact HG.out) hb); have nb_ := Aside0.mk (below_step (by repeat (first | (with_reducible first | exact HB.out | apply below_alloc | apply pw_below_drewN | apply below_drew1) | exact HB.out)) hb); clear HW; clear HX0; clear HX1; clear HG; clear HB; have HW := n0_; have HX0 := n1_; have HX1 := n2_; have HG := n3_; have HB := nb_; clear n0_ n1_ n2_ n3_ nb_; clear hb) | ((with_reducible refine gate_callee (f := 18) rfl ?_); refine goesL_ (some 62) rfl rfl Try.func18 (by kernel_rfl) rfl #[.slice Ax1 l1.length cx1, .slice Ay1 l1.length cy1] rfl (by (try simp only [List.map_toArray, List.map_cons, List.map_nil]); first | done | rfl | (simp only [List.length_drop, List.length_take]; rfl) | (go_simp; done) | (simp; done) | (simp; rfl)) ?_; (with_reducible refine (laws_intactLayerSF.calls k l1.length _ _ L1 _ _ L1 room1 _ ?side1 ?side2 ?side3 ?side4 hroom1 hn1 hr1_0 hr1_1 hLr1 hLr1 heq1).mono ?_); (case side1 => exact (Kd.R_reads' (by (with_reducible repeat (first | apply Kd.R_alloc | apply Kd.R_drewN | apply Kd.R_drew)); exact HX1.out)).2.2); (case side2 => exact HLx1.out); (case side3 => repeat (first | exact HKy1.out | (with_reducible refine Kd.C_alloc ?_ _) | (with_reducible refine Kd.C_drewN ?_ _) | (with_reducible refine Kd.C_drew ?_))); (case side4 => exact HLy1.out); rintro e ws1 ⟨rfl, hb⟩; refine ⟨_, rfl, ?_⟩; have n0_ := Aside0.mk (Kd.R_below (by (with_reducible repeat (first | apply Kd.R_alloc | apply Kd.R_drewN | apply Kd.R_drew)); exact HW.out) hb); have n1_ := Aside0.mk (Kd.R_below (by (with_reducible repeat (first | apply Kd.R_alloc | apply Kd.R_drewN | apply Kd.R_drew)); exact HX0.out) hb); have n2_ := Aside0.mk (Kd.R_below (by (with_reducible repeat (first | apply Kd.R_alloc | apply Kd.R_drewN | apply Kd.R_drew)); exact HX1.out) hb); have n3_ := Aside0.mk (Kd.R_below (by (with_reducible repeat (first | apply Kd.R_alloc | apply Kd.R_drewN | apply Kd.R_drew)); exact HG.out) hb); have n4_ := Aside0.mk (Kd.C_below (by repeat (first | exact HKy1.out | (with_reducible refine Kd.C_alloc ?_ _) | (with_reducible refine Kd.C_drewN ?_ _) | (with_reducible refine Kd.C_drew ?_))) hb); have nb_ := Aside0.mk (below_step (by repeat (first | (with_reducible first | exact HB.out | apply below_alloc | apply pw_below_drewN | apply below_drew1) | exact HB.out)) hb); clear HW; clear HX0; clear HX1; clear HG; clear HKy1; clear HB; have HW := n0_; have HX0 := n1_; have HX1 := n2_; have HG := n3_; have HKy1 := n4_; have HB := nb_; clear n0_ n1_ n2_ n3_ n4_ nb_; clear hb) | ((with_reducible refine gate_callee (f := 30) rfl ?_); refine goesL_ (some 66) rfl rfl Try.func30 (by kernel_rfl) rfl #[.slice Ax0 l0.length cx0, .int .i64 101] rfl (by (try simp only [List.map_toArray, List.map_cons, List.map_nil]); first | done | rfl | (simp only [List.length_drop, List.length_take]; rfl) | (go_simp; done) | (simp; done) | (simp; rfl)) ?_; (with_reducible refine (laws_markLayerS.calls k (fun k_ => some k_ = (.slice Ax0 l0.length cx0 : Value).ownBlock) (.slice Ax0 l0.length cx0) M0 101 kx0 Mx0 w _ ?side1 ?side2 hmx0).mono ?_); (case side1 => repeat (first | (with_reducible first | exact HB.out | apply below_alloc | apply pw_below_drewN | apply below_drew1) | exact HB.out)); (case side2 => exact (takeR hLt0 hM0 hLl_0 (by (with_reducible repeat (first | apply Kd.R_alloc | apply Kd.R_drewN | apply Kd.R_drew)); exact HX0.out))); rintro e wk0 ⟨rfl, _, hb0, hkp⟩; refine ⟨_, rfl, ?_⟩; have n0_ := Aside0.mk (R_keptT rfl (by (with_reducible repeat (first | apply Kd.R_alloc | apply Kd.R_drewN | apply Kd.R_drew)); exact HW.out) hkp (fun k_ hk_ he_ => NWX0.out k_ hk_ (he_.trans (own_same _ _ _ _)))); have n1_ := Aside0.mk (R_keptT rfl (by (with_reducible repeat (first | apply Kd.R_alloc | apply Kd.R_drewN | apply Kd.R_drew)); exact HX1.out) hkp (fun k_ hk_ he_ => NX01.out k_ ((own_same _ _ _ _).trans he_.symm) hk_.symm)); have n2_ := Aside0.mk (R_keptT rfl (by (with_reducible repeat (first | apply Kd.R_alloc | apply Kd.R_drewN | apply Kd.R_drew)); exact HG.out) hkp (fun k_ hk_ he_ => NXG0.out k_ ((own_same _ _ _ _).trans he_.symm) hk_.symm)); have nb_ := Aside0.mk (hb0); clear HW; clear HX1; clear HG; clear HB; have HW := n0_; have HX1 := n1_; have HG := n2_; have HB := nb_; clear n0_ n1_ n2_ nb_; clear hb0 hkp; clear HX0 NWX0 NX01 NXG0) | ((with_reducible refine gate_callee (f := 30) rfl ?_); refine goesL_ (some 69) rfl rfl Try.func30 (by kernel_rfl) rfl #[.slice Ax1 l1.length cx1, .int .i64 kx0] rfl (by (try simp only [List.map_toArray, List.map_cons, List.map_nil]); first | done | rfl | (simp only [List.length_drop, List.length_take]; rfl) | (go_simp; done) | (simp; done) | (simp; rfl)) ?_; (with_reducible refine (laws_markLayerS.calls k (fun k_ => some k_ = (.slice Ax1 l1.length cx1 : Value).ownBlock) (.slice Ax1 l1.length cx1) M1 kx0 kx1 Mx1 w _ ?side1 ?side2 hmx1).mono ?_); (case side1 => repeat (first | (with_reducible first | exact HB.out | apply below_alloc | apply pw_below_drewN | apply below_drew1) | exact HB.out)); (case side2 => exact (takeR hLt1 hM1 hLl_1 (by (with_reducible repeat (first | apply Kd.R_alloc | apply Kd.R_drewN | apply Kd.R_drew)); exact HX1.out))); rintro e wk1 ⟨rfl, _, hb0, hkp⟩; refine ⟨_, rfl, ?_⟩; have n0_ := Aside0.mk (R_keptT rfl (by (with_reducible repeat (first | apply Kd.R_alloc | apply Kd.R_drewN | apply Kd.R_drew)); exact HW.out) hkp (fun k_ hk_ he_ => NWX1.out k_ hk_ (he_.trans (own_same _ _ _ _)))); have n1_ := Aside0.mk (R_keptT rfl (by (with_reducible repeat (first | apply Kd.R_alloc | apply Kd.R_drewN | apply Kd.R_drew)); exact HG.out) hkp (fun k_ hk_ he_ => NXG1.out k_ ((own_same _ _ _ _).trans he_.symm) hk_.symm)); have nb_ := Aside0.mk (hb0); clear HW; clear HG; clear HB; have HW := n0_; have HG := n1_; have HB := nb_; clear n0_ n1_ nb_; clear hb0 hkp; clear HX1 NWX1 NXG1) | (go_at_call 29; (with_reducible refine (laws_eqLayerS.calls k _ _ r _ _ r true _ ?side1 ?side2 ?side3 ?side4 heqr).mono ?_); (case side1 => exact (Kd.R_reads' (by (with_reducible repeat (first | apply Kd.R_alloc | apply Kd.R_drewN | apply Kd.R_drew)); exact HG.out)).2.2); (case side2 => exact (Kd.R_reads' HG.out).2.1); (case side3 => exact (Kd.R_reads' (by (with_reducible repeat (first | apply Kd.R_alloc | apply Kd.R_drewN | apply Kd.R_drew)); exact HW.out)).2.2); (case side4 => exact (Kd.R_reads' HW.out).2.1); rintro e we2 ⟨rfl, hb⟩; have n0_ := Aside0.mk (Kd.R_below (by (with_reducible repeat (first | apply Kd.R_alloc | apply Kd.R_drewN | apply Kd.R_drew)); exact HW.out) hb); have n1_ := Aside0.mk (Kd.R_below (by (with_reducible repeat (first | apply Kd.R_alloc | apply Kd.R_drewN | apply Kd.R_drew)); exact HG.out) hb); have nb_ := Aside0.mk (below_step (by repeat (first | (with_reducible first | exact HB.out | apply below_alloc | apply pw_below_drewN | apply below_drew1) | exact HB.out)) hb); clear HW; clear HG; clear HB; have HW := n0_; have HG := n1_; have HB := nb_; clear n0_ n1_ nb_; clear hb) | ((with_reducible refine gate_callee (f := 30) rfl ?_); refine goesL_ (some 85) rfl rfl Try.func30 (by kernel_rfl) rfl #[.slice Ag r.length cg, .int .i64 101] rfl (by (try simp only [List.map_toArray, List.map_cons, List.map_nil]); first | done | rfl | (simp only [List.length_drop, List.length_take]; rfl) | (go_simp; done) | (simp; done) | (simp; rfl)) ?_; (with_reducible refine (laws_markLayerS.calls k (fun k_ => some k_ = (.slice Ag r.length cg : Value).ownBlock) (.slice Ag r.length cg) r 101 km Mg w _ ?side1 ?side2 hmg).mono ?_); (case side1 => repeat (first | (with_reducible first | exact HB.out | apply below_alloc | apply pw_below_drewN | apply below_drew1) | exact HB.out)); (case side2 => exact (Kd.R_tight rfl (by (with_reducible repeat (first | apply Kd.R_alloc | apply Kd.R_drewN | apply Kd.R_drew)); exact HG.out))); rintro e wl ⟨rfl, hRg, hb0, hkp⟩; refine ⟨_, rfl, ?_⟩; have n0_ := Aside0.mk (R_keptT rfl (by (with_reducible repeat (first | apply Kd.R_alloc | apply Kd.R_drewN | apply Kd.R_drew)); exact HW.out) hkp (fun k_ hk_ => NWG.out k_ hk_)); have nb_ := Aside0.mk (hb0); clear HW; clear HB; have HW := n0_; have HB := nb_; clear n0_ nb_; clear hb0 hkp; have HM := Aside0.mk (Kd.R_mono (ok' := fun _ => True) hRg (fun _ _ => trivial)); clear hRg HG NWG) | ((with_reducible refine gate_callee (f := 31) rfl ?_); refine goesL_ (some 88) rfl rfl Try.func31 (by kernel_rfl) rfl #[.slice Ag r.length cg, .int .i64 101] rfl (by (try simp only [List.map_toArray, List.map_cons, List.map_nil]); first | done | rfl | (simp only [List.length_drop, List.length_take]; rfl) | (go_simp; done) | (simp; done) | (simp; rfl)) ?_; (with_reducible refine (hheld _ _ _ ?side1 ?side2).mono ?_); (case side1 => exact (Kd.R_reads' (by (with_reducible repeat (first | apply Kd.R_alloc | apply Kd.R_drewN | apply Kd.R_drew)); exact HM.out)).2.2); (case side2 => exact (Kd.R_reads' HM.out |> fun z_ => z_.1 ▸ z_.2.1)); rintro e wm ⟨rfl, hd⟩; have hb := drawn_below hd; clear hd; refine ⟨_, rfl, ?_⟩; have n0_ := Aside0.mk (Kd.R_below (by (with_reducible repeat (first | apply Kd.R_alloc | apply Kd.R_drewN | apply Kd.R_drew)); exact HW.out) hb); have n1_ := Aside0.mk (Kd.R_below (by (with_reducible repeat (first | apply Kd.R_alloc | apply Kd.R_drewN | apply Kd.R_drew)); exact HM.out) hb); have nb_ := Aside0.mk (below_step (by repeat (first | (with_reducible first | exact HB.out | apply below_alloc | apply pw_below_drewN | apply below_drew1) | exact HB.out)) hb); clear HW; clear HM; clear HB; have HW := n0_; have HM := n1_; have HB := nb_; clear n0_ n1_ nb_; clear hb) | ((with_reducible refine gate_callee (f := 16) rfl ?_); refine goesL_ (some 96) rfl rfl Try.func16 (by kernel_rfl) rfl #[.slice A0 l0.length c0, .bool true] rfl (by (try simp only [List.map_toArray, List.map_cons, List.map_nil]); first | done | rfl | (simp only [List.length_drop, List.length_take]; rfl) | (go_simp; done) | (simp; done) | (simp; rfl)) ?_; (with_reducible refine (laws_toLayerS.calls k _ _ l0 true M0 _ ?side1 ?side2 hbare0).mono ?_); (case side1 => repeat (first | exact (Kd.C_below HR0.out (by repeat (first | (with_reducible first | exact HB.out | apply below_alloc | apply pw_below_drewN | apply below_drew1) | exact HB.out))) | (with_reducible refine Kd.C_alloc ?_ _) | (with_reducible refine Kd.C_drewN ?_ _) | (with_reducible refine Kd.C_drew ?_))); (case side2 => exact HC0.out); rintro e wza ⟨vza, rfl, hR, hb⟩; obtain ⟨Aza, cza, eza⟩ := Kd.R_slice hR; subst eza; refine ⟨_, rfl, ?_⟩; have HKza := Aside0.mk (Kd.R_reads' hR).2.2; have HLza := Aside0.mk (Kd.R_reads' hR).2.1; clear hR; have n0_ := Aside0.mk (Kd.R_below (by (with_reducible repeat (first | apply Kd.R_alloc | apply Kd.R_drewN | apply Kd.R_drew)); exact HW.out) hb); have n1_ := Aside0.mk (Kd.R_below (by (with_reducible repeat (first | apply Kd.R_alloc | apply Kd.R_drewN | apply Kd.R_drew)); exact HM.out) hb); have nb_ := Aside0.mk (below_step (by repeat (first | (with_reducible first | exact HB.out | apply below_alloc | apply pw_below_drewN | apply below_drew1) | exact HB.out)) hb); clear HW; clear HM; clear HB; have HW := n0_; have HM := n1_; have HB := nb_; clear n0_ n1_ nb_; clear hb) | ((with_reducible refine gate_callee (f := 16) rfl ?_); refine goesL_ (some 98) rfl rfl Try.func16 (by kernel_rfl) rfl #[.slice A1 l1.length c1, .bool true] rfl (by (try simp only [List.map_toArray, List.map_cons, List.map_nil]); first | done | rfl | (simp only [List.length_drop, List.length_take]; rfl) | (go_simp; done) | (simp; done) | (simp; rfl)) ?_; (with_reducible refine (laws_toLayerS.calls k _ _ l1 true M1 _ ?side1 ?side2 hbare1).mono ?_); (case side1 => repeat (first | exact (Kd.C_below HR1.out (by repeat (first | (with_reducible first | exact HB.out | apply below_alloc | apply pw_below_drewN | apply below_drew1) | exact HB.out))) | (with_reducible refine Kd.C_alloc ?_ _) | (with_reducible refine Kd.C_drewN ?_ _) | (with_reducible refine Kd.C_drew ?_))); (case side2 => exact HC1.out); rintro e wzb ⟨vzb, rfl, hR, hb⟩; obtain ⟨Azb, czb, ezb⟩ := Kd.R_slice hR; subst ezb; refine ⟨_, rfl, ?_⟩; have HKzb := Aside0.mk (Kd.R_reads' hR).2.2; have HLzb := Aside0.mk (Kd.R_reads' hR).2.1; clear hR; have n0_ := Aside0.mk (Kd.R_below (by (with_reducible repeat (first | apply Kd.R_alloc | apply Kd.R_drewN | apply Kd.R_drew)); exact HW.out) hb); have n1_ := Aside0.mk (Kd.R_below (by (with_reducible repeat (first | apply Kd.R_alloc | apply Kd.R_drewN | apply Kd.R_drew)); exact HM.out) hb); have n2_ := Aside0.mk (Kd.C_below (by repeat (first | exact HKza.out | (with_reducible refine Kd.C_alloc ?_ _) | (with_reducible refine Kd.C_drewN ?_ _) | (with_reducible refine Kd.C_drew ?_))) hb); have nb_ := Aside0.mk (below_step (by repeat (first | (with_reducible first | exact HB.out | apply below_alloc | apply pw_below_drewN | apply below_drew1) | exact HB.out)) hb); clear HW; clear HM; clear HKza; clear HB; have HW := n0_; have HM := n1_; have HKza := n2_; have HB := nb_; clear n0_ n1_ n2_ nb_; clear hb) | ((with_reducible refine gate_callee (f := 28) rfl ?_); refine goesL_ (some 99) rfl rfl Try.func28 (by kernel_rfl) rfl #[.slice Aza M0.length cza, .slice Azb M1.length czb] rfl (by (try simp only [List.map_toArray, List.map_cons, List.map_nil]); first | done | rfl | (simp only [List.length_drop, List.length_take]; rfl) | (go_simp; done) | (simp; done) | (simp; rfl)) ?_; (with_reducible refine (impl_JoinProfiles.calls k _ _ M0 _ _ M1 r t _ ?side1 ?side2 ?side3 ?side4 himp).mono ?_); (case side1 => repeat (first | exact HKza.out | (with_reducible refine Kd.C_alloc ?_ _) | (with_reducible refine Kd.C_drewN ?_ _) | (with_reducible refine Kd.C_drew ?_))); (case side2 => exact HLza.out); (case side3 => repeat (first | exact HKzb.out | (with_reducible refine Kd.C_alloc ?_ _) | (with_reducible refine Kd.C_drewN ?_ _) | (with_reducible refine Kd.C_drew ?_))); (case side4 => exact HLzb.out); rintro e wt ⟨vh, rfl, hR, hb⟩; refine ⟨_, rfl, ?_⟩; obtain ⟨Ah, ch, eh⟩ := Kd.R_slice hR; subst eh; have HH := Aside0.mk (Kd.R_lower hR (below_size (by repeat (first | (with_reducible first | exact HB.out | apply below_alloc | apply pw_below_drewN | apply below_drew1) | exact HB.out)))); clear hR; have n0_ := Aside0.mk (Kd.R_below (by (with_reducible repeat (first | apply Kd.R_alloc | apply Kd.R_drewN | apply Kd.R_drew)); exact HW.out) hb); have n1_ := Aside0.mk (Kd.R_below (by (with_reducible repeat (first | apply Kd.R_alloc | apply Kd.R_drewN | apply Kd.R_drew)); exact HM.out) hb); have n2_ := Aside0.mk (Kd.C_below (by repeat (first | exact HKza.out | (with_reducible refine Kd.C_alloc ?_ _) | (with_reducible refine Kd.C_drewN ?_ _) | (with_reducible refine Kd.C_drew ?_))) hb); have n3_ := Aside0.mk (Kd.C_below (by repeat (first | exact HKzb.out | (with_reducible refine Kd.C_alloc ?_ _) | (with_reducible refine Kd.C_drewN ?_ _) | (with_reducible refine Kd.C_drew ?_))) hb); have nb_ := Aside0.mk (below_step (by repeat (first | (with_reducible first | exact HB.out | apply below_alloc | apply pw_below_drewN | apply below_drew1) | exact HB.out)) hb); clear HW; clear HM; clear HKza; clear HKzb; clear HB; have HW := n0_; have HM := n1_; have HKza := n2_; have HKzb := n3_; have HB := nb_; clear n0_ n1_ n2_ n3_ nb_; clear hb) | ((with_reducible refine gate_callee (f := 29) rfl ?_); refine goesL_ (some 104) rfl rfl Try.func29 (by kernel_rfl) rfl #[.slice Ah r.length ch, .slice Aw r.length cw] rfl (by (try simp only [List.map_toArray, List.map_cons, List.map_nil]); first | done | rfl | (simp only [List.length_drop, List.length_take]; rfl) | (go_simp; done) | (simp; done) | (simp; rfl)) ?_; (with_reducible refine (laws_eqLayerS.calls k _ _ r _ _ r true _ ?side1 ?side2 ?side3 ?side4 heqr).mono ?_); (case side1 => exact (Kd.R_reads' (by (with_reducible repeat (first | apply Kd.R_alloc | apply Kd.R_drewN | apply Kd.R_drew)); exact HH.out)).2.2); (case side2 => exact (Kd.R_reads' HH.out).2.1); (case side3 => exact (Kd.R_reads' (by (with_reducible repeat (first | apply Kd.R_alloc | apply Kd.R_drewN | apply Kd.R_drew)); exact HW.out)).2.2); (case side4 => exact (Kd.R_reads' HW.out).2.1); rintro e we3 ⟨rfl, hb⟩; refine ⟨_, rfl, ?_⟩; have n0_ := Aside0.mk (Kd.R_below (by (with_reducible repeat (first | apply Kd.R_alloc | apply Kd.R_drewN | apply Kd.R_drew)); exact HW.out) hb); have n1_ := Aside0.mk (Kd.R_below (by (with_reducible repeat (first | apply Kd.R_alloc | apply Kd.R_drewN | apply Kd.R_drew)); exact HM.out) hb); have n2_ := Aside0.mk (Kd.R_below (by (with_reducible repeat (first | apply Kd.R_alloc | apply Kd.R_drewN | apply Kd.R_drew)); exact HH.out) hb); have nb_ := Aside0.mk (below_step (by repeat (first | (with_reducible first | exact HB.out | apply below_alloc | apply pw_below_drewN | apply below_drew1) | exact HB.out)) hb); clear HW; clear HM; clear HH; clear HB; have HW := n0_; have HM := n1_; have HH := n2_; have HB := nb_; clear n0_ n1_ n2_ nb_; clear hb) | ((with_reducible refine gate_callee (f := 31) rfl ?_); refine goesL_ (some 113) rfl rfl Try.func31 (by kernel_rfl) rfl #[.slice Ag r.length cg, .int .i64 101] rfl (by (try simp only [List.map_toArray, List.map_cons, List.map_nil]); first | done | rfl | (simp only [List.length_drop, List.length_take]; rfl) | (go_simp; done) | (simp; done) | (simp; rfl)) ?_; (with_reducible refine (hheld _ _ _ ?side1 ?side2).mono ?_); (case side1 => exact (Kd.R_reads' (by (with_reducible repeat (first | apply Kd.R_alloc | apply Kd.R_drewN | apply Kd.R_drew)); exact HM.out)).2.2); (case side2 => exact (Kd.R_reads' HM.out |> fun z_ => z_.1 ▸ z_.2.1)); rintro e wn ⟨rfl, hd⟩; have hb := drawn_below hd; clear hd; refine ⟨_, rfl, ?_⟩; have n0_ := Aside0.mk (Kd.R_below (by (with_reducible repeat (first | apply Kd.R_alloc | apply Kd.R_drewN | apply Kd.R_drew)); exact HM.out) hb); have nb_ := Aside0.mk (below_step (by repeat (first | (with_reducible first | exact HB.out | apply below_alloc | apply pw_below_drewN | apply below_drew1) | exact HB.out)) hb); clear HM; clear HB; have HM := n0_; have HB := nb_; clear n0_ nb_; clear hb))
  go_ret
  exact ⟨by first | rfl | (simp [errW_none, errW_some] <;> rfl) | (simp [*, errW_none, errW_some] <;> rfl), by repeat (first | (with_reducible first | exact HB.out | apply below_alloc | apply pw_below_drewN | apply below_drew1) | exact HB.out)⟩
set_option maxHeartbeats 40000000 in
set_option maxRecDepth 100000 in
theorem big0 (A0 : Option Addr) (c0 : Nat) (l0 : List S64) (A1 : Option Addr) (c1 : Nat) (l1 : List S64) (z0 : Int) (w : World) (hr0 : Kd.C k64 w A0 l0.length l0) (hc0 : l0.length ≤ c0) (hr1 : Kd.C k64 w A1 l1.length l1) (hc1 : l1.length ≤ c1) (hsz0 : laws_szLayerS.f l0 1000000 = some z0) (hz0 : z0 < 0) : Calls Try.prog 8 #[.slice A0 l0.length c0, .slice A1 l1.length c1] w fun e w' => e = .returned (.bool true) ∧ Below w.heap.size w w' := by
  have HR0 := Aside0.mk hr0
  have HC0 := Aside0.mk hc0
  have HR1 := Aside0.mk hr1
  have HC1 := Aside0.mk hc1
  have HB := Aside0.mk (Below.refl w.heap.size w)
  have cz0 : decide (z0 < 0) = true := decide_eq_true hz0
  clear hr0 hc0 hr1 hc1 hz0
  go_enter Try.func8, Try.ntmps8
  go_wp2_with (first | ((with_reducible refine gate_callee (f := 14) rfl ?_); refine goesL_ (some 19) rfl rfl Try.func14 (by kernel_rfl) rfl #[.slice A0 l0.length c0, .int .i64 1000000] rfl (by (try simp only [List.map_toArray, List.map_cons, List.map_nil]); first | done | rfl | (simp only [List.length_drop, List.length_take]; rfl) | (go_simp; done) | (simp; done) | (simp; rfl)) ?_; (with_reducible refine (laws_szLayerS.calls _ _ l0 1000000 z0 _ ?side1 ?side2 hsz0).mono ?_); (case side1 => repeat (first | exact (Kd.C_below HR0.out (by repeat (first | (with_reducible first | exact HB.out | apply below_alloc | apply pw_below_drewN | apply below_drew1) | exact HB.out))) | (with_reducible refine Kd.C_alloc ?_ _) | (with_reducible refine Kd.C_drewN ?_ _) | (with_reducible refine Kd.C_drew ?_))); (case side2 => exact HC0.out); rintro e wo0 ⟨rfl, hd⟩; have hb := drawn_below hd; clear hd; refine ⟨_, rfl, ?_⟩; have nb_ := Aside0.mk (below_step (by repeat (first | (with_reducible first | exact HB.out | apply below_alloc | apply pw_below_drewN | apply below_drew1) | exact HB.out)) hb); clear HB; have HB := nb_; clear nb_; clear hb))
  go_ret
  exact ⟨by first | rfl | (simp [errW_none, errW_some] <;> rfl) | (simp [*, errW_none, errW_some] <;> rfl), by repeat (first | (with_reducible first | exact HB.out | apply below_alloc | apply pw_below_drewN | apply below_drew1) | exact HB.out)⟩
set_option maxHeartbeats 40000000 in
set_option maxRecDepth 100000 in
theorem big1 (A0 : Option Addr) (c0 : Nat) (l0 : List S64) (A1 : Option Addr) (c1 : Nat) (l1 : List S64) (z0 z1 : Int) (w : World) (hr0 : Kd.C k64 w A0 l0.length l0) (hc0 : l0.length ≤ c0) (hr1 : Kd.C k64 w A1 l1.length l1) (hc1 : l1.length ≤ c1) (hsz0 : laws_szLayerS.f l0 1000000 = some z0) (hz0 : ¬ z0 < 0) (hsz1 : laws_szLayerS.f l1 z0 = some z1) (hz1 : z1 < 0) : Calls Try.prog 8 #[.slice A0 l0.length c0, .slice A1 l1.length c1] w fun e w' => e = .returned (.bool true) ∧ Below w.heap.size w w' := by
  have HR0 := Aside0.mk hr0
  have HC0 := Aside0.mk hc0
  have HR1 := Aside0.mk hr1
  have HC1 := Aside0.mk hc1
  have HB := Aside0.mk (Below.refl w.heap.size w)
  have cz0 : decide (z0 < 0) = false := decide_eq_false hz0
  have cz1 : decide (z1 < 0) = true := decide_eq_true hz1
  clear hr0 hc0 hr1 hc1 hz0 hz1
  go_enter Try.func8, Try.ntmps8
  go_wp2_with (first | ((with_reducible refine gate_callee (f := 14) rfl ?_); refine goesL_ (some 19) rfl rfl Try.func14 (by kernel_rfl) rfl #[.slice A0 l0.length c0, .int .i64 1000000] rfl (by (try simp only [List.map_toArray, List.map_cons, List.map_nil]); first | done | rfl | (simp only [List.length_drop, List.length_take]; rfl) | (go_simp; done) | (simp; done) | (simp; rfl)) ?_; (with_reducible refine (laws_szLayerS.calls _ _ l0 1000000 z0 _ ?side1 ?side2 hsz0).mono ?_); (case side1 => repeat (first | exact (Kd.C_below HR0.out (by repeat (first | (with_reducible first | exact HB.out | apply below_alloc | apply pw_below_drewN | apply below_drew1) | exact HB.out))) | (with_reducible refine Kd.C_alloc ?_ _) | (with_reducible refine Kd.C_drewN ?_ _) | (with_reducible refine Kd.C_drew ?_))); (case side2 => exact HC0.out); rintro e wo0 ⟨rfl, hd⟩; have hb := drawn_below hd; clear hd; refine ⟨_, rfl, ?_⟩; have nb_ := Aside0.mk (below_step (by repeat (first | (with_reducible first | exact HB.out | apply below_alloc | apply pw_below_drewN | apply below_drew1) | exact HB.out)) hb); clear HB; have HB := nb_; clear nb_; clear hb) | ((with_reducible refine gate_callee (f := 14) rfl ?_); refine goesL_ (some 24) rfl rfl Try.func14 (by kernel_rfl) rfl #[.slice A1 l1.length c1, .int .i64 z0] rfl (by (try simp only [List.map_toArray, List.map_cons, List.map_nil]); first | done | rfl | (simp only [List.length_drop, List.length_take]; rfl) | (go_simp; done) | (simp; done) | (simp; rfl)) ?_; (with_reducible refine (laws_szLayerS.calls _ _ l1 z0 z1 _ ?side1 ?side2 hsz1).mono ?_); (case side1 => repeat (first | exact (Kd.C_below HR1.out (by repeat (first | (with_reducible first | exact HB.out | apply below_alloc | apply pw_below_drewN | apply below_drew1) | exact HB.out))) | (with_reducible refine Kd.C_alloc ?_ _) | (with_reducible refine Kd.C_drewN ?_ _) | (with_reducible refine Kd.C_drew ?_))); (case side2 => exact HC1.out); rintro e wo1 ⟨rfl, hd⟩; have hb := drawn_below hd; clear hd; refine ⟨_, rfl, ?_⟩; have nb_ := Aside0.mk (below_step (by repeat (first | (with_reducible first | exact HB.out | apply below_alloc | apply pw_below_drewN | apply below_drew1) | exact HB.out)) hb); clear HB; have HB := nb_; clear nb_; clear hb))
  go_ret
  exact ⟨by first | rfl | (simp [errW_none, errW_some] <;> rfl) | (simp [*, errW_none, errW_some] <;> rfl), by repeat (first | (with_reducible first | exact HB.out | apply below_alloc | apply pw_below_drewN | apply below_drew1) | exact HB.out)⟩
theorem ofRow3 {w : World} {a : Option Addr} {len cap : Nat} {zs : List (Int × Int × Int)} (h : (a = none ∧ len = 0 ∧ cap = 0 ∧ zs = []) ∨ ∃ x, a = some x ∧ len ≤ cap ∧ cap ≤ maxLen ∧ zs.length = len ∧ ∀ i p, zs[i]? = some p → (w.cell? (x.add (i * 3 + 0)) = some (.int .i64 (p.1)) ∧ w.cell? (x.add (i * 3 + 1)) = some (.int .i64 (p.2.1)) ∧ w.cell? (x.add (i * 3 + 2)) = some (.int .i64 (p.2.2)) ∧ (Lit.int .i64 p.1).wf = true ∧ (Lit.int .i64 p.2.1).wf = true ∧ (Lit.int .i64 p.2.2).wf = true)) :
    ∃ l : List S64, len = l.length ∧ Kd.C k64 w a l.length l ∧ l.length ≤ cap ∧ l.length ≤ maxLen := by
  rcases h with ⟨rfl, rfl, rfl, rfl⟩ | ⟨x, rfl, h1, h2, h3, h4⟩
  · exact ⟨[], rfl, ⟨rfl, by simp, fun h => absurd h (by simp)⟩, by simp, by simp⟩
  · have hm := maxLen_eq
    refine ⟨zs.map fun p => ⟨p.1, p.2.1, p.2.2⟩, by simp [h3], ⟨rfl, by simp; omega, fun _ => ⟨x, rfl, fun j q hj => ?_⟩⟩, by simp; omega, by simp; omega⟩
    rw [List.getElem?_map] at hj
    obtain ⟨p, hp, rfl⟩ := Option.map_eq_some_iff.1 hj
    obtain ⟨g0, g1, g2, _⟩ := h4 j p hp
    refine ⟨_, rfl, k64_mk w _, fun i u hi => ?_⟩
    match i, hi with
    | 0, hi => simp at hi; subst hi; exact g0
    | 1, hi => simp at hi; subst hi; exact g1
    | 2, hi => simp at hi; subst hi; exact g2
    | i + 3, hi => simp at hi
theorem sz_any (l : List S64) (h : l.length ≤ maxLen) {n : Int} (h0 : 0 ≤ n) (h1 : n ≤ 1000000) : ∃ z, laws_szLayerS.f l n = some z ∧ z ≤ 1000000 ∧ (¬ z < 0 → l.length ≤ 1000000) := by
  have hm := maxLen_eq
  unfold laws_szLayerS.f
  rw [w64 (n := n - (l.length : Int)) (by omega) (by omega)]
  split
  · exact ⟨_, rfl, by omega, by omega⟩
  · exact ⟨_, rfl, by omega, by omega⟩
theorem walk (W : World) (a0 : Option Addr) (len0 cap0 : Nat) (z0 : List (Int × Int × Int)) (w0 : (a0 = none ∧ len0 = 0 ∧ cap0 = 0 ∧ z0 = []) ∨ ∃ x, a0 = some x ∧ len0 ≤ cap0 ∧ cap0 ≤ maxLen ∧ z0.length = len0 ∧ ∀ i p, z0[i]? = some p → (W.cell? (x.add (i * 3 + 0)) = some (.int .i64 (p.1)) ∧ W.cell? (x.add (i * 3 + 1)) = some (.int .i64 (p.2.1)) ∧ W.cell? (x.add (i * 3 + 2)) = some (.int .i64 (p.2.2)) ∧ (Lit.int .i64 p.1).wf = true ∧ (Lit.int .i64 p.2.1).wf = true ∧ (Lit.int .i64 p.2.2).wf = true)) (a1 : Option Addr) (len1 cap1 : Nat) (z1 : List (Int × Int × Int)) (w1 : (a1 = none ∧ len1 = 0 ∧ cap1 = 0 ∧ z1 = []) ∨ ∃ x, a1 = some x ∧ len1 ≤ cap1 ∧ cap1 ≤ maxLen ∧ z1.length = len1 ∧ ∀ i p, z1[i]? = some p → (W.cell? (x.add (i * 3 + 0)) = some (.int .i64 (p.1)) ∧ W.cell? (x.add (i * 3 + 1)) = some (.int .i64 (p.2.1)) ∧ W.cell? (x.add (i * 3 + 2)) = some (.int .i64 (p.2.2)) ∧ (Lit.int .i64 p.1).wf = true ∧ (Lit.int .i64 p.2.1).wf = true ∧ (Lit.int .i64 p.2.2).wf = true)) :
    Calls Try.prog 8 #[.slice a0 len0 cap0, .slice a1 len1 cap1] W fun e w' => e = .returned (.bool true) ∧ Below W.heap.size W w' := by
  obtain ⟨l0, rfl, hr0, hc0, hm0⟩ := ofRow3 w0
  obtain ⟨l1, rfl, hr1, hc1, hm1⟩ := ofRow3 w1
  obtain ⟨y0, hsz0, hy0, hn0⟩ := sz_any l0 hm0 (n := 1000000) (by omega) (by omega)
  by_cases g0 : y0 < 0
  · exact big0 a0 cap0 l0 a1 cap1 l1 y0 W hr0 hc0 hr1 hc1 hsz0 g0
  obtain ⟨y1, hsz1, hy1, hn1⟩ := sz_any l1 hm1 (n := y0) (by omega) hy0
  by_cases g1 : y1 < 0
  · exact big1 a0 cap0 l0 a1 cap1 l1 y0 y1 W hr0 hc0 hr1 hc1 hsz0 g0 hsz1 g1
  have hn0 := hn0 g0
  have hn1 := hn1 g1
  obtain ⟨room0, er0, r0_0, r0_1⟩ := room_some l0.length (by omega)
  obtain ⟨L0, eF0, hF0, hT0⟩ := toLayerSF_ev l0 (by omega) er0 r0_0 r0_1
  have hml0 : (l0.map cvL).length = l0.length := by simp
  obtain ⟨room1, er1, r1_0, r1_1⟩ := room_some l1.length (by omega)
  obtain ⟨L1, eF1, hF1, hT1⟩ := toLayerSF_ev l1 (by omega) er1 r1_0 r1_1
  have hml1 : (l1.map cvL).length = l1.length := by simp
  have hrl := joinM_len (l0.map cvL) (l1.map cvL)
  obtain ⟨K1, h1⟩ := impl_JoinProfiles_ev (l0.map cvL) (l1.map cvL) (by omega) (by omega)
  obtain ⟨K2, h2⟩ := spec_JoinProfiles_ev (l0.map cvL) (l1.map cvL) (by omega) (by omega)
  generalize joinM (l0.map cvL) (l1.map cvL) = rr at h1 h2 hrl
  obtain ⟨r, t⟩ := rr
  simp only at hrl
  obtain ⟨K3, h3⟩ := eF0
  obtain ⟨K4, h4⟩ := toLayerS_bare l0 (by omega)
  obtain ⟨K5, h5⟩ := eqLayerS_ev L0 (by omega)
  obtain ⟨K6, h6⟩ := markLayerS_ev (l0.map cvL) (m := 101) (by omega) (by omega)
  obtain ⟨K7, h7⟩ := markLayerS_ev r (m := 101) (by omega) (by omega)
  obtain ⟨K8, h8⟩ := heldLayerS_ev (n := r.length) (m := 101) (by omega) (by omega)
  obtain ⟨K9, h9⟩ := eqLayerS_ev r (by omega)
  obtain ⟨K10, h10⟩ := eF1
  obtain ⟨K11, h11⟩ := toLayerS_bare l1 (by omega)
  obtain ⟨K12, h12⟩ := eqLayerS_ev L1 (by omega)
  obtain ⟨K13, h13⟩ := markLayerS_ev (l1.map cvL) (m := 101 + 3 * (l0.map cvL).length) (by omega) (by omega)
  have e := fun (x : Nat) (h : x ≤ K1 + K2 + K3 + K4 + K5 + K6 + K7 + K8 + K9 + K10 + K11 + K12 + K13) => h
  exact go (K1 + K2 + K3 + K4 + K5 + K6 + K7 + K8 + K9 + K10 + K11 + K12 + K13) a0 cap0 l0 a1 cap1 l1 r t (l0.map cvL) L0 _ y0 _ room0 (l1.map cvL) L1 _ y1 _ room1 _ _ W hr0 hc0 hr1 hc1 hn0 hn1 hsz0 hsz1
    g0 hml0 (h3 _ (by omega)) hT0 (by omega) (by omega) er0 r0_0 (by omega) (h4 _ (by omega)) (h5 _ (by omega))
    g1 hml1 (h10 _ (by omega)) hT1 (by omega) (by omega) er1 r1_0 (by omega) (h11 _ (by omega)) (h12 _ (by omega))
    (h2 _ (by omega)) (h1 _ (by omega)) (h9 _ (by omega)) (h6 _ (by omega)) (h13 _ (by omega)) (by omega) (h7 _ (by omega)) (by omega) (mkL_len _ _) (h8 _ (by omega))

end Go.Proofs.Ytidibjmckgbpbaa.GoFnExactJoinProfiles
