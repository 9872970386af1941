/- For every string up to a million bytes IsWord answers what the reference's answers; no condition. -/
import Derived.Test.YtgcjjpaljfgiaaaMa
import Derived.Test.YtgcjjpaljfgiaaaPFnExactIsWordx
namespace Go.Proofs.Ytgcjjpaljfgiaaa.PureFnExactIsWord
open Go.RowKit Go.Proofs.Ytgcjjpaljfgiaaa.PFnExactIsWord Go.Proofs.YtgcjjpaljfgiaaaW.PrintWords Go.Proofs.YtgcjjpaljfgiaaaW.PrintLast Go.Proofs.Ytgcjjpaljfgiaaa.Ma

/-! ### IsWord -/
def az (c : Int) : Bool := decide (97 ≤ c) && decide (c ≤ 122)
def wordL (l : List Int) : Bool := decide (1 ≤ l.length) && decide (l.length ≤ 16) && l.all az
theorem az_lo {c : Int} (h : c < 97) : az c = false := by unfold az; simp; omega
theorem az_hi {c : Int} (h : c > 122) : az c = false := by unfold az; simp; omega
theorem az_in {c : Int} (h : ¬ c < 97) (h' : ¬ c > 122) : az c = true := by unfold az; simp; omega
theorem spec_l01In_eq (a b c : Int) : spec_l01In.f a b c = some (decide (b ≤ a) && decide (a ≤ c)) := by
  unfold spec_l01In.f
  by_cases h : b ≤ a <;> simp [h]
theorem spec_IsWord_l0 (s : ByteArray) (hs : s.size ≤ 4611686018427387904) : ∀ (R : List Int) (i : Nat), (bytesOf s).drop i = R → i ≤ s.size → Ev (fun k => spec_IsWord.l0 k s i) (R.all az && (decide (1 ≤ (s.size : Int)) && decide ((s.size : Int) ≤ 16))) := by
  intro R
  induction R with
  | nil =>
    intro i h hi
    have := bo_drop_nil h
    refine Ev.step (fun k => spec_IsWord.l0.eq_2 ..) ?_
    refine ev_neg (by omega) (ev_bind0 (spec_l01In_eq ..) (ev_ret ?_))
    simp
  | cons c R ih =>
    intro i h hi
    obtain ⟨h1, h2, h3⟩ := bt_drop h
    refine Ev.step (fun k => spec_IsWord.l0.eq_2 ..) ?_
    refine ev_pos (by omega) (ev_pos (by omega) ?_)
    rw [h2, w64 (by omega) (by omega)]
    by_cases a : c < 97
    · exact ev_pos a (ev_ret (by simp [az_lo a]))
    · refine ev_neg a ?_
      by_cases b : c > 122
      · exact ev_pos b (ev_ret (by simp [az_hi b]))
      · refine ev_neg b ?_
        have := ih (i + 1) h3 (by omega)
        rw [List.all_cons, az_in a b, Bool.true_and]
        exact this
theorem spec_IsWord_ev (s : ByteArray) (hs : s.size ≤ 4611686018427387904) : Ev (fun k => spec_IsWord.f k s) (wordL (bytesOf s)) := by
  have h := spec_IsWord_l0 s hs (bytesOf s) 0 rfl (by omega)
  unfold spec_IsWord.f
  have e : wordL (bytesOf s) = ((bytesOf s).all az && (decide (1 ≤ (s.size : Int)) && decide ((s.size : Int) ≤ 16))) := by
    unfold wordL; rw [bytesOf_length, Bool.and_comm]
    congr 2 <;> exact decide_eq_decide.2 (by omega)
  rw [e]; exact h

theorem impl_IsWord_l0 (s : ByteArray) (hs : s.size ≤ 4611686018427387904) : ∀ (R : List Int) (i : Nat), (bytesOf s).drop i = R → i ≤ s.size → Ev (fun k => impl_IsWord.l0 k s i) (R.all az) := by
  intro R
  induction R with
  | nil =>
    intro i h hi
    have := bo_drop_nil h
    refine Ev.step (fun k => impl_IsWord.l0.eq_2 ..) ?_
    exact ev_neg (by omega) (ev_ret rfl)
  | cons c R ih =>
    intro i h hi
    obtain ⟨h1, h2, h3⟩ := bt_drop h
    refine Ev.step (fun k => impl_IsWord.l0.eq_2 ..) ?_
    refine ev_pos (by omega) (ev_pos (by omega) ?_)
    rw [h2, w64 (by omega) (by omega)]
    by_cases a : c < 97
    · exact ev_pos a (ev_ret (by simp [az_lo a]))
    · refine ev_neg a ?_
      by_cases b : c > 122
      · exact ev_pos b (ev_ret (by simp [az_hi b]))
      · refine ev_neg b ?_
        have := ih (i + 1) h3 (by omega)
        rw [List.all_cons, az_in a b, Bool.true_and]
        exact this
theorem impl_IsWord_ev (s : ByteArray) (hs : s.size ≤ 4611686018427387904) : Ev (fun k => impl_IsWord.f k s) (wordL (bytesOf s)) := by
  have h := impl_IsWord_l0 s hs (bytesOf s) 0 rfl (by omega)
  have hb := bytesOf_length s
  unfold impl_IsWord.f wordL
  by_cases a : (s.size : Int) < 1
  · refine ev_pos a (Ev.step (fun k => impl_IsWord.j0.eq_2 ..) (ev_pos rfl (ev_ret ?_)))
    simp; omega
  · refine ev_neg a (Ev.step (fun k => impl_IsWord.j0.eq_2 ..) ?_)
    by_cases b : (s.size : Int) > 16
    · refine ev_pos (by simpa using b) (ev_ret ?_)
      simp; omega
    · refine ev_neg (by simpa using b) ?_
      have e : (decide (1 ≤ (bytesOf s).length) && decide ((bytesOf s).length ≤ 16) && (bytesOf s).all az) = (bytesOf s).all az := by
        simp; intro _; omega
      rw [e]; exact h
theorem main : laws_FnExactIsWord.Pure := by
  intro s _
  apply Ev.rounds
  unfold laws_FnExactIsWord.f
  by_cases a : (s.size : Int) > 1000000
  · exact ev_pos a (ev_ret rfl)
  · refine ev_neg a ((spec_IsWord_ev s (by omega)).bind ((impl_IsWord_ev s (by omega)).bind ?_))
    exact ev_neg (by simp) (ev_ret rfl)

end Go.Proofs.Ytgcjjpaljfgiaaa.PureFnExactIsWord
namespace Go.Proofs.Ytgcjjpaljfgiaaa.Pure
theorem FnExactIsWord : PFnExactIsWord.laws_FnExactIsWord.Pure := PureFnExactIsWord.main
end Go.Proofs.Ytgcjjpaljfgiaaa.Pure
