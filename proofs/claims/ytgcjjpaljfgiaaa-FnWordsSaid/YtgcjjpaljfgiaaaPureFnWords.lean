/- A list of words is recovered from its text; no condition. -/
import Derived.Test.YtgcjjpaljfgiaaaMa
import Derived.Test.YtgcjjpaljfgiaaaQFnWordsx
namespace Go.Proofs.Ytgcjjpaljfgiaaa.PureFnWords
open Go.RowKit Go.Proofs.Ytgcjjpaljfgiaaa.QFnWords Go.Proofs.YtgcjjpaljfgiaaaW.PrintWords Go.Proofs.YtgcjjpaljfgiaaaW.PrintLast Go.Proofs.Ytgcjjpaljfgiaaa.Ma
set_option linter.unusedVariables false
set_option linter.unusedSimpArgs false

/-! ### division, ranges -/
theorem in_eq (a b c : Int) : spec_l01In.f a b c = some (decide (b ≤ a ∧ a ≤ c)) := by
  unfold spec_l01In.f
  by_cases h : b ≤ a <;> simp [h]
theorem tdiv_floor {a b : Int} (hb : 0 < b) : (Int.tmod a b < 0 → Int.tdiv a b - 1 = a / b) ∧ (¬ Int.tmod a b < 0 → Int.tdiv a b = a / b) := by
  have h1 := Int.tdiv_eq_ediv (a := a) (b := b)
  have h2 := Int.tmod_eq_emod (a := a) (b := b)
  have h3 := Int.emod_nonneg a (show b ≠ 0 by omega)
  have h4 := Int.emod_lt_of_pos a hb
  by_cases h : 0 ≤ a ∨ b ∣ a
  · rw [if_pos h] at h1 h2
    omega
  · rw [if_neg h] at h1 h2
    rw [Int.sign_eq_one_of_pos hb] at h1
    omega
theorem ediv_small {a b : Int} (hb : 0 < b) (h : -4611686018427387904 ≤ a) (h' : a ≤ 4611686018427387904) : -4611686018427387904 ≤ a / b ∧ a / b ≤ 4611686018427387904 := by
  have h1 : -4611686018427387904 * b ≤ a := by
    have := Int.mul_le_mul_of_nonneg_left (show 1 ≤ b by omega) (show (0 : Int) ≤ 4611686018427387904 by omega); omega
  have h2 : a < (4611686018427387904 + 1) * b := by
    have := Int.mul_le_mul_of_nonneg_left (show 1 ≤ b by omega) (show (0 : Int) ≤ 4611686018427387905 by omega); omega
  have h3 := (Int.le_ediv_iff_mul_le hb).2 h1
  have h4 := (Int.ediv_lt_iff_lt_mul hb).2 h2
  omega
/-! ### words joined by commas -/
def jr : List (List Int) → List Int
  | [] => []
  | w :: ws => 44 :: (w ++ jr ws)
theorem joi_jr : ∀ (w : List Int) (ws : List (List Int)), joi 44 (w :: ws) = w ++ jr ws
  | w, [] => by simp [joi, jr]
  | w, v :: ws => by rw [joi_cons 44 w (by simp), joi_jr v ws]; rfl
def joP (i : Nat) (ws : List (List Int)) : List Int := if i = 0 then joi 44 ws else jr ws
theorem joP_nil (i : Nat) : joP i [] = [] := by unfold joP; split <;> rfl
theorem joP_zero (w : List Int) (ws : List (List Int)) : joP 0 (w :: ws) = w ++ joP 1 ws := by
  unfold joP; rw [if_pos rfl, if_neg (by omega), joi_jr]
theorem joP_succ (i : Nat) (w : List Int) (ws : List (List Int)) : joP (i + 1) (w :: ws) = 44 :: (w ++ joP (i + 2) ws) := by
  unfold joP; rw [if_neg (by omega), if_neg (by omega)]; rfl
theorem bo_comma : bytesOf (⟨#[44]⟩ : ByteArray) = [44] := rfl
theorem sz_comma : (⟨#[44]⟩ : ByteArray).size = 1 := rfl
theorem impl_joinWith_l0 (ws : List ByteArray) (hl : ws.length ≤ 1000000) (hz : ∀ w ∈ ws, w.size ≤ 1000000) : ∀ (R : List ByteArray) (i : Nat) (A : ByteArray), ws.drop i = R → A.size ≤ i * 2000000 →
    ∃ r, Ev (fun k => impl_joinWith.l0 k ⟨#[44]⟩ A ws (ws.length : Int) i) r ∧ bytesOf r = bytesOf A ++ joP i (R.map bytesOf) := by
  intro R
  induction R with
  | nil =>
    intro i A h hA
    have := drop_nil h
    exact ⟨A, Ev.step (fun k => impl_joinWith.l0.eq_2 ..) (ev_neg (by omega) (Ev.now _)), by simp [joP_nil]⟩
  | cons w R ih =>
    intro i A h hA
    obtain ⟨h1, h2, h3⟩ := rdOf_drop (d := ByteArray.empty) h
    have hw : w ∈ ws := by
      have : w ∈ ws.drop i := by rw [h]; simp
      exact List.mem_of_mem_drop this
    have hws := hz w hw
    cases i with
    | zero =>
      obtain ⟨r, er, hr⟩ := ih 1 (A ++ w) h3 (by rw [ByteArray.size_append]; omega)
      refine ⟨r, Ev.step (fun k => impl_joinWith.l0.eq_2 ..) (ev_pos (by omega) (ev_pos (by omega) (ev_pos (by omega) (ev_neg (by omega) ?_)))), ?_⟩
      · rw [h2, w64 (by omega) (by omega)]
        exact ev_pos (by omega) er
      · rw [hr, bo_app, List.map_cons, joP_zero, List.append_assoc]
    | succ i =>
      obtain ⟨r, er, hr⟩ := ih (i + 2) ((A ++ ⟨#[44]⟩) ++ w) h3 (by rw [ByteArray.size_append, ByteArray.size_append, sz_comma]; omega)
      refine ⟨r, Ev.step (fun k => impl_joinWith.l0.eq_2 ..) (ev_pos (by omega) (ev_pos (by omega) (ev_pos (by omega) (ev_pos (by omega) ?_)))), ?_⟩
      · rw [h2, w64 (n := ((i + 1 : Nat) : Int) + 1) (by omega) (by omega)]
        exact ev_pos (by rw [sz_comma]; omega) (ev_pos (by rw [ByteArray.size_append, sz_comma]; omega) er)
      · rw [hr, bo_app, bo_app, bo_comma, List.map_cons, joP_succ, List.append_assoc, List.append_assoc, List.singleton_append]
theorem impl_joinWith_ev (ws : List ByteArray) (hl : ws.length ≤ 1000000) (hz : ∀ w ∈ ws, w.size ≤ 1000000) : ∃ r, Ev (fun k => impl_joinWith.f k ws ⟨#[44]⟩) r ∧ bytesOf r = joi 44 (ws.map bytesOf) := by
  obtain ⟨r, er, hr⟩ := impl_joinWith_l0 ws hl hz ws 0 ⟨#[]⟩ rfl (by have : (⟨#[]⟩ : ByteArray).size = 0 := rfl; omega)
  exact ⟨r, er, by rw [hr, bo_nil]; rfl⟩
theorem spec_l01Words_l0 (ws : List ByteArray) (hl : ws.length ≤ 1000000) (hz : ∀ w ∈ ws, w.size ≤ 1000000) : ∀ (R : List ByteArray) (i : Nat) (A : ByteArray), ws.drop i = R → A.size ≤ i * 2000000 →
    ∃ r, Ev (fun k => spec_l01Words.l0 k ws ⟨#[44]⟩ A i) r ∧ bytesOf r = bytesOf A ++ joP i (R.map bytesOf) := by
  intro R
  induction R with
  | nil =>
    intro i A h hA
    have := drop_nil h
    exact ⟨A, Ev.step (fun k => spec_l01Words.l0.eq_2 ..) (ev_neg (by omega) (Ev.now _)), by simp [joP_nil]⟩
  | cons w R ih =>
    intro i A h hA
    obtain ⟨h1, h2, h3⟩ := rdOf_drop (d := ByteArray.empty) h
    have hw : w ∈ ws := by
      have : w ∈ ws.drop i := by rw [h]; simp
      exact List.mem_of_mem_drop this
    have hws := hz w hw
    cases i with
    | zero =>
      obtain ⟨r, er, hr⟩ := ih 1 (A ++ w) h3 (by rw [ByteArray.size_append]; omega)
      refine ⟨r, Ev.step (fun k => spec_l01Words.l0.eq_2 ..) (ev_pos (by omega) (ev_neg (by omega) (ev_pos (by omega) ?_))), ?_⟩
      · rw [h2, w64 (by omega) (by omega)]
        exact ev_pos (by omega) er
      · rw [hr, bo_app, List.map_cons, joP_zero, List.append_assoc]
    | succ i =>
      obtain ⟨r, er, hr⟩ := ih (i + 2) ((A ++ ⟨#[44]⟩) ++ w) h3 (by rw [ByteArray.size_append, ByteArray.size_append, sz_comma]; omega)
      refine ⟨r, Ev.step (fun k => spec_l01Words.l0.eq_2 ..) (ev_pos (by omega) (ev_pos (by omega) (ev_pos (by rw [sz_comma]; omega) (ev_pos (by omega) ?_)))), ?_⟩
      · rw [h2, w64 (n := ((i + 1 : Nat) : Int) + 1) (by omega) (by omega)]
        exact ev_pos (by rw [ByteArray.size_append, sz_comma]; omega) er
      · rw [hr, bo_app, bo_app, bo_comma, List.map_cons, joP_succ, List.append_assoc, List.append_assoc, List.singleton_append]
theorem spec_l01Words_ev (ws : List ByteArray) (hl : ws.length ≤ 1000000) (hz : ∀ w ∈ ws, w.size ≤ 1000000) : ∃ r, Ev (fun k => spec_l01Words.f k ws ⟨#[44]⟩) r ∧ bytesOf r = joi 44 (ws.map bytesOf) := by
  obtain ⟨r, er, hr⟩ := spec_l01Words_l0 ws hl hz ws 0 ⟨#[]⟩ rfl (by have : (⟨#[]⟩ : ByteArray).size = 0 := rfl; omega)
  exact ⟨r, er, by rw [hr, bo_nil]; rfl⟩

/-! ### IsWord -/
def az (c : Int) : Bool := decide (97 ≤ c) && decide (c ≤ 122)
def wordL (l : List Int) : Bool := decide (1 ≤ l.length) && decide (l.length ≤ 16) && l.all az
theorem az_lo {c : Int} (h : c < 97) : az c = false := by unfold az; simp; omega
theorem az_hi {c : Int} (h : c > 122) : az c = false := by unfold az; simp; omega
theorem az_in {c : Int} (h : ¬ c < 97) (h' : ¬ c > 122) : az c = true := by unfold az; simp; omega
theorem spec_l01In_eq (a b c : Int) : spec_l01In.f a b c = some (decide (b ≤ a) && decide (a ≤ c)) := by
  unfold spec_l01In.f
  by_cases h : b ≤ a <;> simp [h]
theorem spec_IsWord_l0 (s : ByteArray) (hs : s.size ≤ 4611686018427387904) : ∀ (R : List Int) (i : Nat), (bytesOf s).drop i = R → i ≤ s.size → Ev (fun k => spec_IsWord.l0 k s i) (R.all az && (decide (1 ≤ (s.size : Int)) && decide ((s.size : Int) ≤ 16))) := by
  intro R
  induction R with
  | nil =>
    intro i h hi
    have := bo_drop_nil h
    refine Ev.step (fun k => spec_IsWord.l0.eq_2 ..) ?_
    refine ev_neg (by omega) (ev_bind0 (spec_l01In_eq ..) (ev_ret ?_))
    simp
  | cons c R ih =>
    intro i h hi
    obtain ⟨h1, h2, h3⟩ := bt_drop h
    refine Ev.step (fun k => spec_IsWord.l0.eq_2 ..) ?_
    refine ev_pos (by omega) (ev_pos (by omega) ?_)
    rw [h2, w64 (by omega) (by omega)]
    by_cases a : c < 97
    · exact ev_pos a (ev_ret (by simp [az_lo a]))
    · refine ev_neg a ?_
      by_cases b : c > 122
      · exact ev_pos b (ev_ret (by simp [az_hi b]))
      · refine ev_neg b ?_
        have := ih (i + 1) h3 (by omega)
        rw [List.all_cons, az_in a b, Bool.true_and]
        exact this
theorem spec_IsWord_ev (s : ByteArray) (hs : s.size ≤ 4611686018427387904) : Ev (fun k => spec_IsWord.f k s) (wordL (bytesOf s)) := by
  have h := spec_IsWord_l0 s hs (bytesOf s) 0 rfl (by omega)
  unfold spec_IsWord.f
  have e : wordL (bytesOf s) = ((bytesOf s).all az && (decide (1 ≤ (s.size : Int)) && decide ((s.size : Int) ≤ 16))) := by
    unfold wordL; rw [bytesOf_length, Bool.and_comm]
    congr 2 <;> exact decide_eq_decide.2 (by omega)
  rw [e]; exact h

theorem impl_IsWord_l0 (s : ByteArray) (hs : s.size ≤ 4611686018427387904) : ∀ (R : List Int) (i : Nat), (bytesOf s).drop i = R → i ≤ s.size → Ev (fun k => impl_IsWord.l0 k s i) (R.all az) := by
  intro R
  induction R with
  | nil =>
    intro i h hi
    have := bo_drop_nil h
    refine Ev.step (fun k => impl_IsWord.l0.eq_2 ..) ?_
    exact ev_neg (by omega) (ev_ret rfl)
  | cons c R ih =>
    intro i h hi
    obtain ⟨h1, h2, h3⟩ := bt_drop h
    refine Ev.step (fun k => impl_IsWord.l0.eq_2 ..) ?_
    refine ev_pos (by omega) (ev_pos (by omega) ?_)
    rw [h2, w64 (by omega) (by omega)]
    by_cases a : c < 97
    · exact ev_pos a (ev_ret (by simp [az_lo a]))
    · refine ev_neg a ?_
      by_cases b : c > 122
      · exact ev_pos b (ev_ret (by simp [az_hi b]))
      · refine ev_neg b ?_
        have := ih (i + 1) h3 (by omega)
        rw [List.all_cons, az_in a b, Bool.true_and]
        exact this
theorem impl_IsWord_ev (s : ByteArray) (hs : s.size ≤ 4611686018427387904) : Ev (fun k => impl_IsWord.f k s) (wordL (bytesOf s)) := by
  have h := impl_IsWord_l0 s hs (bytesOf s) 0 rfl (by omega)
  have hb := bytesOf_length s
  unfold impl_IsWord.f wordL
  by_cases a : (s.size : Int) < 1
  · refine ev_pos a (Ev.step (fun k => impl_IsWord.j0.eq_2 ..) (ev_pos rfl (ev_ret ?_)))
    simp; omega
  · refine ev_neg a (Ev.step (fun k => impl_IsWord.j0.eq_2 ..) ?_)
    by_cases b : (s.size : Int) > 16
    · refine ev_pos (by simpa using b) (ev_ret ?_)
      simp; omega
    · refine ev_neg (by simpa using b) ?_
      have e : (decide (1 ≤ (bytesOf s).length) && decide ((bytesOf s).length ≤ 16) && (bytesOf s).all az) = (bytesOf s).all az := by
        simp; intro _; omega
      rw [e]; exact h

/-! ### splitting -/
def splB (b : Int) (s : ByteArray) : List ByteArray := (spl b [] (bytesOf s)).map strOfNums
theorem cur_ext (s : ByteArray) (f i : Nat) : strOfNums (((bytesOf s).take i).drop f) = s.extract f i := by
  rw [← bo_ext, of_bo]
theorem spl_len (b : Int) : ∀ (l cur : List Int), (spl b cur l).length ≤ l.length + 1
  | [], cur => by simp [spl]
  | c :: l, cur => by
    unfold spl
    split
    · have := spl_len b l []
      simp only [List.length_cons]; omega
    · have := spl_len b l (cur ++ [c])
      simp only [List.length_cons]; omega
theorem impl_splitAt_l0 (s : ByteArray) (b : Int) (hs : s.size ≤ 1000000) : ∀ (R : List Int) (i f : Nat) (out : List ByteArray), (bytesOf s).drop i = R → i ≤ s.size → f ≤ i → out.length ≤ i →
    Ev (fun k => impl_splitAt.l0 k s b out f i) (out ++ (spl b (((bytesOf s).take i).drop f) R).map strOfNums) := by
  intro R
  induction R with
  | nil =>
    intro i f out h hi hf ho
    have h1 := bo_drop_nil h
    refine Ev.step (fun k => impl_splitAt.l0.eq_2 ..) (ev_neg (by omega) (ev_pos (by omega) (ev_pos (by omega) (ev_pos (by omega) (ev_ret ?_)))))
    rw [spl.eq_1, List.map_singleton, cur_ext, Int.toNat_natCast, show i = s.size by omega]
  | cons c R ih =>
    intro i f out h hi hf ho
    obtain ⟨h1, h2, h3⟩ := bt_drop h
    refine Ev.step (fun k => impl_splitAt.l0.eq_2 ..) (ev_pos (by omega) (ev_pos (by omega) ?_))
    rw [h2, w64 (n := (i : Int) + 1) (by omega) (by omega), spl.eq_2]
    by_cases a : c = b
    · refine ev_pos a (ev_pos (by omega) (ev_pos (by omega) (ev_pos (by omega) (ev_pos (by omega) ?_))))
      rw [if_pos a, List.map_cons, cur_ext]
      have := ih (i + 1) (i + 1) (out ++ [s.extract f i]) h3 (by omega) (by omega) (by simp; omega)
      rw [List.drop_eq_nil_of_le (by rw [List.length_take]; omega), List.append_assoc] at this
      exact this
    · refine ev_neg a ?_
      rw [if_neg a]
      have := ih (i + 1) f out h3 (by omega) (by omega) (by omega)
      rw [snoc_take h, List.drop_append_of_le_length (by rw [List.length_take, bytesOf_length]; omega)] at this
      exact this
theorem impl_splitAt_ev (s : ByteArray) (b : Int) (hs : s.size ≤ 1000000) : Ev (fun k => impl_splitAt.f k s b) (splB b s) := by
  have := impl_splitAt_l0 s b hs (bytesOf s) 0 0 [] rfl (by omega) (by omega) (by simp)
  have h : Ev (fun k => impl_splitAt.l0 k s b [] 0 0) (splB b s) := by simpa [splB] using this
  exact h
theorem spec_l01Split_end (s : ByteArray) (b : Int) (out : List ByteArray) (hs : s.size ≤ 1000000) : Ev (fun k => spec_l01Split.l0 k s b out ((s.size + 1 : Nat) : Int) ((s.size + 1 : Nat) : Int)) out :=
  Ev.step (fun k => spec_l01Split.l0.eq_2 ..) (ev_neg (by omega) (Ev.now _))
theorem spec_l01Split_l0 (s : ByteArray) (b : Int) (hs : s.size ≤ 1000000) : ∀ (R : List Int) (i f : Nat) (out : List ByteArray), (bytesOf s).drop i = R → i ≤ s.size → f ≤ i → out.length ≤ i →
    Ev (fun k => spec_l01Split.l0 k s b out f i) (out ++ (spl b (((bytesOf s).take i).drop f) R).map strOfNums) := by
  intro R
  induction R with
  | nil =>
    intro i f out h hi hf ho
    have h1 := bo_drop_nil h
    refine Ev.step (fun k => spec_l01Split.l0.eq_2 ..) (ev_pos (by omega) (ev_pos (by omega) (ev_pos (by omega) (ev_pos (by omega) (ev_pos (by omega) ?_)))))
    rw [spl.eq_1, List.map_singleton, cur_ext, w64 (n := (i : Int) + 1) (by omega) (by omega), show (i : Int) + 1 = ((s.size + 1 : Nat) : Int) by omega, Int.toNat_natCast, Int.toNat_natCast]
    exact spec_l01Split_end s b _ hs
  | cons c R ih =>
    intro i f out h hi hf ho
    obtain ⟨h1, h2, h3⟩ := bt_drop h
    refine Ev.step (fun k => spec_l01Split.l0.eq_2 ..) (ev_pos (by omega) (ev_neg (by omega) (ev_pos (by omega) (ev_pos (by omega) ?_))))
    rw [h2, w64 (n := (i : Int) + 1) (by omega) (by omega), spl.eq_2]
    by_cases a : c = b
    · refine ev_pos a (ev_pos (by omega) (ev_pos (by omega) (ev_pos (by omega) ?_)))
      rw [if_pos a, List.map_cons, cur_ext]
      have := ih (i + 1) (i + 1) (out ++ [s.extract f i]) h3 (by omega) (by omega) (by simp; omega)
      rw [List.drop_eq_nil_of_le (by rw [List.length_take]; omega), List.append_assoc] at this
      exact this
    · refine ev_neg a ?_
      rw [if_neg a]
      have := ih (i + 1) f out h3 (by omega) (by omega) (by omega)
      rw [snoc_take h, List.drop_append_of_le_length (by rw [List.length_take, bytesOf_length]; omega)] at this
      exact this
theorem spec_l01Split_ev (s : ByteArray) (b : Int) (hs : s.size ≤ 1000000) : Ev (fun k => spec_l01Split.f k s b) (splB b s) := by
  have := spec_l01Split_l0 s b hs (bytesOf s) 0 0 [] rfl (by omega) (by omega) (by simp)
  have h : Ev (fun k => spec_l01Split.l0 k s b [] 0 0) (splB b s) := by simpa [splB] using this
  exact h
theorem spl_byte (b : Int) : ∀ (l cur : List Int), (∀ c ∈ cur, byte c) → (∀ c ∈ l, byte c) → ∀ w ∈ spl b cur l, ∀ c ∈ w, byte c
  | [], cur, h, _, w, hw, c, hc => by
    simp only [spl, List.mem_singleton] at hw; subst hw; exact h c hc
  | d :: l, cur, h, k, w, hw, c, hc => by
    unfold spl at hw
    split at hw
    · rcases List.mem_cons.1 hw with rfl | hw
      · exact h c hc
      · exact spl_byte b l [] (by simp) (fun x hx => k x (by simp [hx])) w hw c hc
    · refine spl_byte b l _ ?_ (fun x hx => k x (by simp [hx])) w hw c hc
      intro x hx
      rcases List.mem_append.1 hx with hx | hx
      · exact h x hx
      · simp only [List.mem_singleton] at hx; subst hx; exact k x (by simp)
theorem splB_bo (b : Int) (s : ByteArray) : (splB b s).map bytesOf = spl b [] (bytesOf s) := by
  unfold splB
  rw [List.map_map]
  conv => rhs; rw [← List.map_id (spl b [] (bytesOf s))]
  apply List.map_congr_left
  intro w hw
  exact bo_of w (spl_byte b (bytesOf s) [] (by simp) (bo_byte s) w hw)
theorem splB_len (b : Int) (s : ByteArray) : (splB b s).length ≤ s.size + 1 := by
  unfold splB
  rw [List.length_map]
  have := spl_len b (bytesOf s) []
  rwa [bytesOf_length] at this
theorem spl_word_len (b : Int) : ∀ (l cur : List Int), ∀ w ∈ spl b cur l, w.length ≤ cur.length + l.length
  | [], cur, w, hw => by simp only [spl, List.mem_singleton] at hw; subst hw; simp
  | d :: l, cur, w, hw => by
    unfold spl at hw
    split at hw
    · rcases List.mem_cons.1 hw with rfl | hw
      · simp
      · have := spl_word_len b l [] w hw
        simp at this ⊢; omega
    · have := spl_word_len b l _ w hw
      simp at this ⊢; omega
theorem splB_size (b : Int) (s : ByteArray) : ∀ w ∈ splB b s, w.size ≤ s.size := by
  intro w hw
  have h1 : bytesOf w ∈ spl b [] (bytesOf s) := by rw [← splB_bo]; exact List.mem_map_of_mem hw
  have h2 := spl_word_len b (bytesOf s) [] _ h1
  rw [bytesOf_length, bytesOf_length] at h2
  simpa using h2

/-! ### words read -/
theorem dash_iff2 (s : ByteArray) : s.toList = ([45] : List UInt8) ↔ bytesOf s = [45] := by
  constructor
  · intro h
    have e : s = ⟨#[45]⟩ := by
      apply toList_eq.1
      rw [h, ByteArray.toList_eq]
    rw [e]; rfl
  · intro h
    have e : s = ⟨#[45]⟩ := bo_inj (by rw [h]; rfl)
    rw [e, ByteArray.toList_eq]
def wordsAll (ws : List ByteArray) : Bool := ws.all (fun w => wordL (bytesOf w))
def readW (s : ByteArray) : List ByteArray × Int :=
  if bytesOf s = [45] then ([], 0) else if wordsAll (splB 44 s) = true ∧ (splB 44 s).length ≤ 60 then (splB 44 s, 0) else ([], 6)
theorem spec_l01All_l0 (ws : List ByteArray) (hl : ws.length ≤ 2000000) (hz : ∀ w ∈ ws, w.size ≤ 1000000) : ∀ (R : List ByteArray) (i : Nat), ws.drop i = R → Ev (fun k => spec_l01All.l0 k ws i) (wordsAll R) := by
  intro R
  induction R with
  | nil =>
    intro i h
    have := drop_nil h
    exact Ev.step (fun k => spec_l01All.l0.eq_2 ..) (ev_neg (by omega) (Ev.now _))
  | cons w R ih =>
    intro i h
    obtain ⟨h1, h2, h3⟩ := rdOf_drop (d := ByteArray.empty) h
    have hw : w ∈ ws := by
      have : w ∈ ws.drop i := by rw [h]; simp
      exact List.mem_of_mem_drop this
    refine Ev.step (fun k => spec_l01All.l0.eq_2 ..) (ev_pos (by omega) (ev_pos (by omega) ?_))
    rw [h2, w64 (n := (i : Int) + 1) (by omega) (by omega)]
    refine (spec_IsWord_ev w (by have := hz w hw; omega)).bind ?_
    by_cases a : wordL (bytesOf w) = true
    · refine ev_pos a ?_
      have e : wordsAll (w :: R) = wordsAll R := by simp [wordsAll, a]
      rw [e]; exact ih (i + 1) h3
    · exact ev_neg a (ev_ret (by simp [wordsAll, a]))
theorem spec_l01All_ev (ws : List ByteArray) (hl : ws.length ≤ 2000000) (hz : ∀ w ∈ ws, w.size ≤ 1000000) : Ev (fun k => spec_l01All.f k ws) (wordsAll ws) := spec_l01All_l0 ws hl hz ws 0 rfl
theorem spec_ReadWords_ev (s : ByteArray) (hs : s.size ≤ 1000000) : Ev (fun k => spec_ReadWords.f k s) (readW s) := by
  unfold spec_ReadWords.f readW
  have hl := splB_len 44 s
  by_cases a : bytesOf s = [45]
  · rw [if_pos a]; exact ev_pos ((dash_iff2 s).2 a) (Ev.now _)
  rw [if_neg a]
  refine ev_neg (fun h => a ((dash_iff2 s).1 h)) ((spec_l01Split_ev s 44 hs).bind ((spec_l01All_ev (splB 44 s) (by omega) (fun w hw => by have := splB_size 44 s w hw; omega)).bind ?_))
  by_cases b : wordsAll (splB 44 s) = true
  · refine ev_pos b ?_
    by_cases c : (splB 44 s).length ≤ 60
    · rw [if_pos (show wordsAll (splB 44 s) = true ∧ (splB 44 s).length ≤ 60 from ⟨b, c⟩)]; exact ev_neg (by omega) (Ev.now _)
    · rw [if_neg (show ¬ (wordsAll (splB 44 s) = true ∧ (splB 44 s).length ≤ 60) from fun h => c h.2)]; exact ev_pos (by omega) (Ev.now _)
  · rw [if_neg (show ¬ (wordsAll (splB 44 s) = true ∧ (splB 44 s).length ≤ 60) from fun h => b h.1)]; exact ev_neg b (Ev.now _)
theorem impl_ReadWords_l0 (x ws : List ByteArray) (hl : ws.length ≤ 2000000) (hz : ∀ w ∈ ws, w.size ≤ 1000000) : ∀ (R : List ByteArray) (i : Nat), ws.drop i = R → Ev (fun k => impl_ReadWords.l0 k x ws (ws.length : Int) i) (if wordsAll R = true then (x, 0) else ([], 6)) := by
  intro R
  induction R with
  | nil =>
    intro i h
    have := drop_nil h
    exact Ev.step (fun k => impl_ReadWords.l0.eq_2 ..) (ev_neg (by omega) (ev_ret (by simp [wordsAll])))
  | cons w R ih =>
    intro i h
    obtain ⟨h1, h2, h3⟩ := rdOf_drop (d := ByteArray.empty) h
    have hw : w ∈ ws := by
      have : w ∈ ws.drop i := by rw [h]; simp
      exact List.mem_of_mem_drop this
    refine Ev.step (fun k => impl_ReadWords.l0.eq_2 ..) (ev_pos (by omega) (ev_pos (by omega) (ev_pos (by omega) ?_)))
    rw [h2, w64 (n := (i : Int) + 1) (by omega) (by omega)]
    refine (impl_IsWord_ev w (by have := hz w hw; omega)).bind ?_
    by_cases a : wordL (bytesOf w) = true
    · refine ev_pos a ?_
      have e : wordsAll (w :: R) = wordsAll R := by simp [wordsAll, a]
      rw [e]; exact ih (i + 1) h3
    · exact ev_neg a (ev_ret (by simp [wordsAll, a]))
theorem impl_ReadWords_ev (s : ByteArray) (hs : s.size ≤ 1000000) : Ev (fun k => impl_ReadWords.f k s) (readW s) := by
  unfold impl_ReadWords.f readW
  have hl := splB_len 44 s
  by_cases a : bytesOf s = [45]
  · rw [if_pos a]; exact ev_pos ((dash_iff2 s).2 a) (Ev.now _)
  rw [if_neg a]
  refine ev_neg (fun h => a ((dash_iff2 s).1 h)) ((impl_splitAt_ev s 44 hs).bind ?_)
  by_cases c : (splB 44 s).length ≤ 60
  · refine ev_neg (by omega) ?_
    have := impl_ReadWords_l0 (splB 44 s) (splB 44 s) (by omega) (fun w hw => by have := splB_size 44 s w hw; omega) (splB 44 s) 0 rfl
    by_cases b : wordsAll (splB 44 s) = true
    · rw [if_pos (show wordsAll (splB 44 s) = true ∧ (splB 44 s).length ≤ 60 from ⟨b, c⟩)]; rw [if_pos b] at this; exact this
    · rw [if_neg (show ¬ (wordsAll (splB 44 s) = true ∧ (splB 44 s).length ≤ 60) from fun h => b h.1)]; rw [if_neg b] at this; exact this
  · rw [if_neg (show ¬ (wordsAll (splB 44 s) = true ∧ (splB 44 s).length ≤ 60) from fun h => c h.2)]; exact ev_pos (by omega) (Ev.now _)

/-! ### words, written -/
theorem sz_bo' {s : ByteArray} {l : List Int} (h : bytesOf s = l) : s.size = l.length := by rw [← h, bytesOf_length]
def wordsL (ws : List ByteArray) : List Int := if ws = [] then [45] else joi 44 (ws.map bytesOf)
def wordsM (ws : List ByteArray) : Int := if wordsAll ws = true then (if ws.length > 60 then 3 else 0) else 1
def WordsT (ws : List ByteArray) (r : ByteArray × Int) : Prop := (wordsM ws ≠ 0 ∧ r = (⟨#[]⟩, wordsM ws)) ∨ (wordsM ws = 0 ∧ bytesOf r.1 = wordsL ws ∧ r.2 = 0)
theorem wordsT_uniq {l : List ByteArray} {a b : ByteArray × Int} (h : WordsT l a) (k : WordsT l b) : a = b := by
  rcases h with ⟨h1, rfl⟩ | ⟨h1, h2, h3⟩ <;> rcases k with ⟨k1, rfl⟩ | ⟨k1, k2, k3⟩
  · rfl
  · exact absurd k1 h1
  · exact absurd h1 k1
  · obtain ⟨a1, a2⟩ := a; obtain ⟨b1, b2⟩ := b
    simp only at *
    rw [h3, k3, bo_inj (h2.trans k2.symm)]
theorem wordsM_iff {ws : List ByteArray} : wordsM ws = 0 ↔ (wordsAll ws = true ∧ ws.length ≤ 60) := by
  unfold wordsM
  constructor
  · intro h
    split at h
    · split at h
      · omega
      · exact ⟨by assumption, by omega⟩
    · omega
  · intro ⟨h, k⟩
    rw [if_pos h, if_neg (by omega)]
theorem spec_WordsText_ev (ws : List ByteArray) (hl : ws.length ≤ 1000000) (hz : ∀ w ∈ ws, w.size ≤ 1000000) : ∃ r, Ev (fun k => spec_WordsText.f k ws) r ∧ WordsT ws r := by
  have ha := spec_l01All_ev ws (by omega) hz
  by_cases a : wordsAll ws = true
  · by_cases b : (ws.length : Int) > 60
    · have e : wordsM ws = 3 := by unfold wordsM; rw [if_pos a, if_pos (by omega)]
      exact ⟨_, ha.bind (ev_pos a (ev_pos b (Ev.now _))), .inl ⟨by omega, by rw [e]⟩⟩
    · have e : wordsM ws = 0 := wordsM_iff.2 ⟨a, by omega⟩
      by_cases c : ws = []
      · exact ⟨_, ha.bind (ev_pos a (ev_neg b (ev_pos (by simp [c]) (Ev.now _)))), .inr ⟨e, by unfold wordsL; rw [if_pos c]; rfl, rfl⟩⟩
      · obtain ⟨r, er, hr⟩ := spec_l01Words_ev ws hl hz
        exact ⟨(r, 0), ha.bind (ev_pos a (ev_neg b (ev_neg (by have := List.length_pos_iff.2 c; omega) (er.bind (Ev.now _))))), .inr ⟨e, by unfold wordsL; rw [if_neg c]; exact hr, rfl⟩⟩
  · have e : wordsM ws = 1 := by unfold wordsM; rw [if_neg a]
    exact ⟨_, ha.bind (ev_neg a (Ev.now _)), .inl ⟨by omega, by rw [e]⟩⟩
theorem impl_WordsText_l0 (ws : List ByteArray) (hl : ws.length ≤ 1000000) (hz : ∀ w ∈ ws, w.size ≤ 1000000) : ∀ (R : List ByteArray) (i : Nat), ws.drop i = R → wordsAll ws = wordsAll R → ∃ r, Ev (fun k => impl_WordsText.l0 k ws ws (ws.length : Int) i) r ∧ WordsT ws r := by
  intro R
  induction R with
  | nil =>
    intro i h hA
    have := drop_nil h
    have a : wordsAll ws = true := by rw [hA]; rfl
    by_cases b : (ws.length : Int) > 60
    · have e : wordsM ws = 3 := by unfold wordsM; rw [if_pos a, if_pos (by omega)]
      exact ⟨_, Ev.step (fun k => impl_WordsText.l0.eq_2 ..) (ev_neg (by omega) (ev_pos b (Ev.now _))), .inl ⟨by omega, by rw [e]⟩⟩
    · have e : wordsM ws = 0 := wordsM_iff.2 ⟨a, by omega⟩
      by_cases c : ws = []
      · exact ⟨_, Ev.step (fun k => impl_WordsText.l0.eq_2 ..) (ev_neg (by omega) (ev_neg b (ev_pos (by simp [c]) (Ev.now _)))), .inr ⟨e, by unfold wordsL; rw [if_pos c]; rfl, rfl⟩⟩
      · obtain ⟨r, er, hr⟩ := impl_joinWith_ev ws hl hz
        exact ⟨(r, 0), Ev.step (fun k => impl_WordsText.l0.eq_2 ..) (ev_neg (by omega) (ev_neg b (ev_neg (by have := List.length_pos_iff.2 c; omega) (er.bind (Ev.now _))))), .inr ⟨e, by unfold wordsL; rw [if_neg c]; exact hr, rfl⟩⟩
  | cons w R ih =>
    intro i h hA
    obtain ⟨h1, h2, h3⟩ := rdOf_drop (d := ByteArray.empty) h
    have hw : w ∈ ws := by
      have : w ∈ ws.drop i := by rw [h]; simp
      exact List.mem_of_mem_drop this
    have hi := impl_IsWord_ev w (by have := hz w hw; omega)
    by_cases a : wordL (bytesOf w) = true
    · have e : wordsAll (w :: R) = wordsAll R := by simp [wordsAll, a]
      obtain ⟨r, er, hr⟩ := ih (i + 1) h3 (hA.trans e)
      refine ⟨r, Ev.step (fun k => impl_WordsText.l0.eq_2 ..) (ev_pos (by omega) (ev_pos (by omega) (ev_pos (by omega) ?_))), hr⟩
      rw [h2, w64 (n := (i : Int) + 1) (by omega) (by omega)]
      exact hi.bind (ev_pos a er)
    · have e : wordsAll (w :: R) = false := by simp [wordsAll, a]
      have e1 : wordsM ws = 1 := by unfold wordsM; rw [if_neg (by rw [hA, e]; decide)]
      refine ⟨_, Ev.step (fun k => impl_WordsText.l0.eq_2 ..) (ev_pos (by omega) (ev_pos (by omega) (ev_pos (by omega) ?_))), .inl ⟨by omega, by rw [e1]⟩⟩
      rw [h2]
      exact hi.bind (ev_neg a (Ev.now _))
theorem impl_WordsText_ev (ws : List ByteArray) (hl : ws.length ≤ 1000000) (hz : ∀ w ∈ ws, w.size ≤ 1000000) : ∃ r, Ev (fun k => impl_WordsText.f k ws) r ∧ WordsT ws r :=
  impl_WordsText_l0 ws hl hz ws 0 rfl rfl
theorem WordsText_both (ws : List ByteArray) (hl : ws.length ≤ 1000000) (hz : ∀ w ∈ ws, w.size ≤ 1000000) : ∃ r, Ev (fun k => impl_WordsText.f k ws) r ∧ Ev (fun k => spec_WordsText.f k ws) r ∧ WordsT ws r := by
  obtain ⟨a, ha, ha'⟩ := impl_WordsText_ev ws hl hz
  obtain ⟨b, hb, hb'⟩ := spec_WordsText_ev ws hl hz
  obtain rfl := wordsT_uniq ha' hb'
  exact ⟨a, ha, hb, ha'⟩
/-! #### there and back -/
theorem wordL_az {l : List Int} (h : wordL l = true) : (∀ c ∈ l, 97 ≤ c ∧ c ≤ 122) ∧ 1 ≤ l.length ∧ l.length ≤ 16 := by
  unfold wordL at h
  simp only [Bool.and_eq_true, decide_eq_true_eq, List.all_eq_true] at h
  refine ⟨fun c hc => ?_, h.1.1, h.1.2⟩
  have := h.2 c hc
  unfold az at this
  simp only [Bool.and_eq_true, decide_eq_true_eq] at this
  exact this
theorem wordsAll_mem {ws : List ByteArray} (h : wordsAll ws = true) : ∀ w ∈ ws, wordL (bytesOf w) = true := by
  unfold wordsAll at h
  exact List.all_eq_true.1 h
theorem wordsL_read {s : ByteArray} {x : List ByteArray} (h : readW s = (x, 0)) : wordsL x = bytesOf s ∧ wordsM x = 0 := by
  unfold readW at h
  split at h
  · rename_i e
    obtain ⟨rfl, _⟩ := Prod.mk.inj h
    exact ⟨by unfold wordsL; rw [if_pos rfl, e], wordsM_iff.2 ⟨rfl, by simp⟩⟩
  · split at h
    · rename_i e
      obtain ⟨rfl, _⟩ := Prod.mk.inj h
      have hne : splB 44 s ≠ [] := by
        intro e2
        have := splB_bo 44 s
        rw [e2] at this
        exact spl_ne 44 (bytesOf s) [] this.symm
      refine ⟨?_, wordsM_iff.2 e⟩
      unfold wordsL
      rw [if_neg hne, splB_bo, joi_spl]; rfl
    · have := (Prod.mk.inj h).2; omega
theorem joi_dash' {ws : List (List Int)} (h : ws ≠ []) (h44 : ∀ w ∈ ws, (44 : Int) ∉ w) (h45 : ∀ w ∈ ws, w ≠ [45]) : joi 44 ws ≠ [45] := by
  intro e
  have := spl_joi 44 ws h h44
  rw [e] at this
  have e2 : spl 44 [] [45] = [[45]] := by simp [spl]
  rw [e2] at this
  exact h45 [45] (by rw [← this]; simp) rfl
theorem read_wordsL {ws : List ByteArray} {s : ByteArray} (h : wordsM ws = 0) (e : bytesOf s = wordsL ws) : readW s = (ws, 0) := by
  obtain ⟨h1, h2⟩ := wordsM_iff.1 h
  unfold wordsL at e
  unfold readW
  by_cases a : ws = []
  · rw [if_pos a] at e
    rw [if_pos e, a]
  · rw [if_neg a] at e
    have hne : ws.map bytesOf ≠ [] := by simpa using a
    have hm : ∀ w ∈ ws.map bytesOf, (∀ c ∈ w, 97 ≤ c ∧ c ≤ 122) := by
      intro w hw
      obtain ⟨v, hv, rfl⟩ := List.mem_map.1 hw
      exact (wordL_az (wordsAll_mem h1 v hv)).1
    have h44 : ∀ w ∈ ws.map bytesOf, (44 : Int) ∉ w := fun w hw h => by have := hm w hw 44 h; omega
    have h45 : ∀ w ∈ ws.map bytesOf, w ≠ [45] := fun w hw h => by have := hm w hw 45 (by rw [h]; simp); omega
    have es : splB 44 s = ws := by
      unfold splB
      rw [e, spl_joi 44 _ hne h44, List.map_map]
      conv => rhs; rw [← List.map_id ws]
      apply List.map_congr_left
      intro w _
      exact of_bo w
    rw [if_neg (by rw [e]; exact joi_dash' hne h44 h45), es, if_pos ⟨h1, h2⟩]
theorem jr_len' : ∀ (ws : List (List Int)), (∀ w ∈ ws, w.length ≤ 20) → (jr ws).length ≤ 21 * ws.length
  | [], _ => by simp [jr]
  | w :: ws, h => by
    have h1 := h w (by simp)
    have h2 := jr_len' ws (fun v hv => h v (by simp [hv]))
    simp only [jr, List.length_cons, List.length_append]
    omega
theorem joi_len' {ws : List (List Int)} (h : ∀ w ∈ ws, w.length ≤ 20) : (joi 44 ws).length ≤ 21 * ws.length := by
  cases ws with
  | nil => simp [joi]
  | cons w ws =>
    have h1 := h w (by simp)
    have h2 := jr_len' ws (fun v hv => h v (by simp [hv]))
    rw [joi_jr]
    simp only [List.length_cons, List.length_append]
    omega
theorem wordsL_len {ws : List ByteArray} (h : ∀ w ∈ ws, w.size ≤ 20) : (wordsL ws).length ≤ 21 * ws.length + 1 := by
  unfold wordsL
  split
  · simp
  · have := joi_len' (ws := ws.map bytesOf) (fun w hw => by obtain ⟨v, hv, rfl⟩ := List.mem_map.1 hw; rw [bytesOf_length]; exact h v hv)
    rw [List.length_map] at this
    omega
theorem likeTexts_l0 (l : List ByteArray) (hl : l.length ≤ 4611686018427387904) : ∀ (R : List ByteArray) (i : Nat), l.drop i = R → Ev (fun k => laws_likeTexts.l0 k l l i) true := by
  intro R
  induction R with
  | nil =>
    intro i h
    have := drop_nil h
    exact Ev.step (fun k => laws_likeTexts.l0.eq_2 ..) (ev_neg (by omega) (Ev.now _))
  | cons c R ih =>
    intro i h
    obtain ⟨h1, h2, h3⟩ := rdOf_drop (d := ByteArray.empty) h
    refine Ev.step (fun k => laws_likeTexts.l0.eq_2 ..) (ev_pos (by omega) (ev_pos (by omega) (ev_pos (by omega) (ev_pos rfl ?_))))
    rw [w64 (n := (i : Int) + 1) (by omega) (by omega)]
    exact ih (i + 1) h3
theorem likeTexts_ev (l : List ByteArray) (hl : l.length ≤ 4611686018427387904) : Ev (fun k => laws_likeTexts.f k l l) true := by
  have h := likeTexts_l0 l hl l 0 rfl
  exact ev_pos rfl h
theorem readW_len (s : ByteArray) : (readW s).1.length ≤ 60 := by
  unfold readW
  split
  · simp
  · split
    · rename_i h; exact h.2
    · simp

/-! ### numbers that follow from a code -/
def Code (c : List Int) : Prop := (∀ x ∈ c, 0 ≤ x ∧ x ≤ 255) ∧ c.length ≤ 5000
def Src (c : List Int) (a s : Int) : Prop := Code c ∧ (0 ≤ a ∧ a ≤ c.length) ∧ 0 ≤ s ∧ s < 2147483647
theorem rd_code {c : List Int} (h : Code c) {i : Int} (h0 : 0 ≤ i) (h1 : i < c.length) : 0 ≤ rd c i ∧ rd c i ≤ 255 := by
  unfold rd
  have hi : i.toNat < c.length := by omega
  rw [List.getD_eq_getElem?_getD, List.getElem?_eq_getElem hi]
  exact h.1 _ (List.getElem_mem hi)
theorem tmod_nn {a b : Int} (ha : 0 ≤ a) : Int.tmod a b = a % b := Int.tmod_eq_emod_of_nonneg ha
theorem tmod_in {a b : Int} (ha : 0 ≤ a) (hb : 0 < b) : 0 ≤ Int.tmod a b ∧ Int.tmod a b < b := by
  rw [tmod_nn ha]
  exact ⟨Int.emod_nonneg a (by omega), Int.emod_lt_of_pos a hb⟩
theorem l01Next_some {c : List Int} {a s n : Int} (h : Src c a s) (hn : n ≤ 4611686018427387904) : ∃ x a' s', spec_l01Next.f c a s n = some (x, a', s') ∧ Src c a' s' ∧ 0 ≤ x ∧ (1 ≤ n → x < n) ∧ (n ≤ 1 → x = 0) := by
  obtain ⟨hc, ⟨a0, a1⟩, s0, s1⟩ := h
  have hl := hc.2
  unfold spec_l01Next.f
  by_cases g : n ≤ 1
  · rw [if_pos g]
    exact ⟨0, a, s, rfl, ⟨hc, ⟨a0, a1⟩, s0, s1⟩, by omega, by omega, by omega⟩
  · rw [if_neg g]
    have e1 : wrap64 ((wrap64 (s * 48271)) + 29) = s * 48271 + 29 := by
      rw [w64 (n := s * 48271) (by omega) (by omega), w64 (by omega) (by omega)]
    have e2 := tmod_in (a := s * 48271 + 29) (b := 2147483647) (by omega) (by omega)
    rw [e1]
    generalize Int.tmod (s * 48271 + 29) 2147483647 = s' at *
    have e3 : wrap64 (Int.tdiv s' 31) = s' / 31 := by rw [Int.tdiv_eq_ediv_of_nonneg (by omega), w64 (by omega) (by omega)]
    rw [e3]
    by_cases g1 : a < (c.length : Int)
    · have hr := rd_code hc a0 g1
      rw [if_pos g1, if_pos a0, w64 (n := a + 1) (by omega) (by omega), w64 (n := a + 1 - 1) (by omega) (by omega), show a + 1 - 1 = a by omega, w64 (n := rd c a) (by omega) (by omega), w64 (n := s' / 31 + rd c a) (by omega) (by omega)]
      have t1 := tmod_in (a := rd c a) (b := n) (by omega) (by omega)
      have t2 := tmod_in (a := s' / 31 + rd c a) (b := n) (by omega) (by omega)
      have fin : Src c (a + 1) s' := ⟨hc, ⟨by omega, by omega⟩, e2⟩
      by_cases g2 : n ≤ 256
      · rw [if_pos g2]
        by_cases g3 : Int.tmod (a + 1) 2 = 0
        · rw [if_pos g3, if_pos a0, if_pos g1, if_neg (by omega)]
          exact ⟨_, _, _, rfl, fin, t1.1, fun _ => t1.2, by omega⟩
        · rw [if_neg g3, if_neg (by omega)]
          exact ⟨_, _, _, rfl, fin, t2.1, fun _ => t2.2, by omega⟩
      · rw [if_neg g2, if_neg (by omega)]
        exact ⟨_, _, _, rfl, fin, t2.1, fun _ => t2.2, by omega⟩
    · have t2 := tmod_in (a := s' / 31) (b := n) (by omega) (by omega)
      rw [if_neg g1, if_neg (by omega)]
      exact ⟨_, _, _, rfl, ⟨hc, ⟨a0, a1⟩, e2⟩, t2.1, fun _ => t2.2, by omega⟩
theorem l01From_l0 {c : List Int} (hc : Code c) : ∀ (d : Nat) (i : Int) (s : Int), 64 - i = d → 0 ≤ i → 0 ≤ s → s < 2147483647 → ∃ s', Ev (fun k => spec_l01From.l0 k c i c 0 s) (c, 0, s') ∧ Src c 0 s' := by
  intro d
  have hl := hc.2
  induction d with
  | zero =>
    intro i s hd h0 s0 s1
    refine ⟨s, Ev.step (fun k => spec_l01From.l0.eq_2 ..) ?_, hc, ⟨by omega, by omega⟩, s0, s1⟩
    by_cases g : i < (c.length : Int)
    · exact ev_pos g (ev_neg (by omega) (Ev.now _))
    · exact ev_neg g (Ev.now _)
  | succ d ih =>
    intro i s hd h0 s0 s1
    by_cases g : i < (c.length : Int)
    · have hr := rd_code hc h0 g
      have e1 : wrap64 ((wrap64 (s * 83)) + (wrap64 (rd c i))) = s * 83 + rd c i := by
        rw [w64 (n := s * 83) (by omega) (by omega), w64 (n := rd c i) (by omega) (by omega), w64 (by omega) (by omega)]
      have e2 := tmod_in (a := s * 83 + rd c i) (b := 2147483647) (by omega) (by omega)
      obtain ⟨s', hs, h⟩ := ih (i + 1) (Int.tmod (s * 83 + rd c i) 2147483647) (by omega) (by omega) e2.1 e2.2
      refine ⟨s', Ev.step (fun k => spec_l01From.l0.eq_2 ..) (ev_pos g (ev_pos (by omega) (ev_pos h0 ?_))), h⟩
      rw [e1, w64 (by omega) (by omega)]
      exact hs
    · exact ⟨s, Ev.step (fun k => spec_l01From.l0.eq_2 ..) (ev_neg g (Ev.now _)), hc, ⟨by omega, by omega⟩, s0, s1⟩
theorem l01From_ev {c : List Int} (hc : Code c) : ∃ s, Ev (fun k => spec_l01From.f k c) (c, 0, s) ∧ Src c 0 s :=
  l01From_l0 hc 64 0 61043 (by omega) (by omega) (by omega) (by omega)
/-! ### dice -/
def Dice (c : List Int) (i h : Int) : Prop := Code c ∧ (0 ≤ i ∧ i ≤ c.length) ∧ 0 ≤ h ∧ h ≤ 18446744073709551615
theorem u64w (n : Int) : 0 ≤ IntKind.u64.wrap n ∧ IntKind.u64.wrap n ≤ 18446744073709551615 := by
  have e : IntKind.u64.wrap n = n % 18446744073709551616 := by rfl
  omega
theorem big_false {c : List Int} (h : ¬ (c.length : Int) > 4096) : laws_big.f c = some false := by unfold laws_big.f; simp; omega
theorem big_true {c : List Int} (h : (c.length : Int) > 4096) : laws_big.f c = some true := by unfold laws_big.f; simp; omega
theorem code_of {c : List Int} (h : ∀ x ∈ c, (Lit.int .u8 x).wf = true) (hl : ¬ (c.length : Int) > 4096) : Code c := ⟨fun x hx => bd8 (h x hx), by omega⟩

theorem l01Damage_some {c : List Int} {a s : Int} (h : Src c a s) {t : ByteArray} (ht : t.size ≤ 100000) : ∃ r a' s', spec_l01Damage.f c a s t = some (r, a', s') ∧ Src c a' s' ∧ r.size ≤ t.size + 1 := by
  unfold spec_l01Damage.f
  rw [w64 (n := (t.size : Int) + 1) (by omega) (by omega)]
  obtain ⟨k, a1, s1, e1, h1, k0, k1, _⟩ := l01Next_some h (n := (t.size : Int) + 1) (by omega)
  obtain ⟨m, a2, s2, e2, h2, m0, m1, _⟩ := l01Next_some h1 (n := 8) (by omega)
  have k2 := k1 (by omega)
  rw [e1, Option.bind_some, e2, Option.bind_some]
  dsimp only
  have z1 : (t.extract 0 k.toNat).size = k.toNat := by rw [ByteArray.size_extract]; omega
  have z2 : (t.extract k.toNat t.size).size = t.size - k.toNat := by rw [ByteArray.size_extract]; omega
  by_cases g0 : m = 0
  · rw [if_pos g0, if_pos k0, if_pos (by omega)]
    exact ⟨_, _, _, rfl, h2, by omega⟩
  · rw [if_neg g0]
    by_cases g1 : m = 1
    · rw [if_pos g1, if_pos k0, if_pos (by omega), Option.bind_some]
      obtain ⟨q, a3, s3, e3, h3, q0, q1, _⟩ := l01Next_some h2 (n := 8) (by omega)
      have q2 := q1 (by omega)
      rw [e3, Option.bind_some]
      dsimp only
      rw [if_pos q0, if_pos (by simpa using q2)]
      have z3 : (rdOf ByteArray.empty [(⟨#[48]⟩ : ByteArray), (⟨#[35]⟩ : ByteArray), (⟨#[46]⟩ : ByteArray), (⟨#[47]⟩ : ByteArray), (⟨#[32]⟩ : ByteArray), (⟨#[97]⟩ : ByteArray), (⟨#[45]⟩ : ByteArray), (⟨#[10]⟩ : ByteArray)] q).size = 1 := by
        unfold rdOf
        have : q.toNat = 0 ∨ q.toNat = 1 ∨ q.toNat = 2 ∨ q.toNat = 3 ∨ q.toNat = 4 ∨ q.toNat = 5 ∨ q.toNat = 6 ∨ q.toNat = 7 := by omega
        rcases this with e | e | e | e | e | e | e | e <;> rw [e] <;> rfl
      rw [if_pos (by omega), if_pos (by rw [ByteArray.size_append]; omega)]
      exact ⟨_, _, _, rfl, h3, by rw [ByteArray.size_append, ByteArray.size_append]; omega⟩
    · rw [if_neg g1]
      by_cases g2 : m = 2
      · rw [if_pos g2]
        by_cases g3 : k < (t.size : Int)
        · have z4 : (t.extract (k + 1).toNat t.size).size = t.size - (k + 1).toNat := by rw [ByteArray.size_extract]; omega
          rw [if_pos g3, if_pos k0, if_pos (by omega), w64 (n := k + 1) (by omega) (by omega), if_pos (by omega), if_pos (by omega), if_pos (by omega)]
          exact ⟨_, _, _, rfl, h2, by rw [ByteArray.size_append]; omega⟩
        · rw [if_neg g3]
          exact ⟨_, _, _, rfl, h2, by omega⟩
      · rw [if_neg g2]
        exact ⟨_, _, _, rfl, h2, by omega⟩

theorem pick12 {d : ByteArray} {l : List ByteArray} {x : Int} (h0 : 0 ≤ x) (h1 : x < l.length) : rdOf d l x ∈ l := by
  have hx : x.toNat < l.length := by omega
  unfold rdOf
  rw [List.getD_eq_getElem?_getD, List.getElem?_eq_getElem hx]
  exact List.getElem_mem hx
theorem l01Good_some {c : List Int} {a s : Int} (h : Src c a s) : ∃ x a' s', spec_l01Good.f c a s = some (x, a', s') ∧ Src c a' s' ∧ x.size ≤ 17 := by
  obtain ⟨x0, a0, s0, e0, h0, b0, c0, _⟩ := l01Next_some h (n := 12) (by omega)
  have c0 := c0 (by omega)
  unfold spec_l01Good.f
  rw [Option.bind_some, e0, Option.bind_some, if_pos b0, if_pos (by simpa using c0)]
  refine ⟨_, _, _, rfl, h0, ?_⟩
  have := pick12 (d := ByteArray.empty) (l := [(⟨#[97, 100, 97]⟩ : ByteArray), (⟨#[98, 114, 117, 110, 111]⟩ : ByteArray), (⟨#[99, 108, 97, 114, 97]⟩ : ByteArray), (⟨#[100, 111, 114, 97]⟩ : ByteArray), (⟨#[101, 109, 105, 108]⟩ : ByteArray), (⟨#[102, 114, 105, 100, 97]⟩ : ByteArray), (⟨#[103, 117, 115, 116, 97, 118]⟩ : ByteArray), (⟨#[104, 97, 110, 110, 97]⟩ : ByteArray), (⟨#[105, 118, 97, 110]⟩ : ByteArray), (⟨#[106, 97, 110, 97]⟩ : ByteArray), (⟨#[107, 97, 114, 108]⟩ : ByteArray), (⟨#[108, 101, 110, 97]⟩ : ByteArray)]) b0 (by simpa using c0)
  revert this
  generalize rdOf _ _ _ = w
  intro hw
  simp only [List.mem_cons, List.not_mem_nil, or_false] at hw
  rcases hw with rfl | rfl | rfl | rfl | rfl | rfl | rfl | rfl | rfl | rfl | rfl | rfl <;> decide
theorem l01DrawWord_some {c : List Int} {a s : Int} (h : Src c a s) : ∃ x a' s', spec_l01DrawWord.f c a s = some (x, a', s') ∧ Src c a' s' ∧ x.size ≤ 17 := by
  obtain ⟨x0, a0, s0, e0, h0, _⟩ := l01Next_some h (n := 24) (by omega)
  unfold spec_l01DrawWord.f
  rw [e0, Option.bind_some]
  by_cases g : x0 = 0
  · obtain ⟨x1, a1, s1, e1, h1, b1, c1, _⟩ := l01Next_some h0 (n := 6) (by omega)
    have c1 := c1 (by omega)
    rw [if_pos g, Option.bind_some, e1, Option.bind_some, if_pos b1, if_pos (by simpa using c1)]
    refine ⟨_, _, _, rfl, h1, ?_⟩
    have := pick12 (d := ByteArray.empty) (l := [(⟨#[]⟩ : ByteArray), (⟨#[65, 100, 97]⟩ : ByteArray), (⟨#[97, 49]⟩ : ByteArray), (⟨#[97, 98, 99, 100, 101, 102, 103, 104, 105, 106, 107, 108, 109, 110, 111, 112]⟩ : ByteArray), (⟨#[97, 98, 99, 100, 101, 102, 103, 104, 105, 106, 107, 108, 109, 110, 111, 112, 113]⟩ : ByteArray), (⟨#[97, 32, 98]⟩ : ByteArray)]) b1 (by simpa using c1)
    revert this
    generalize rdOf _ _ _ = w
    intro hw
    simp only [List.mem_cons, List.not_mem_nil, or_false] at hw
    rcases hw with rfl | rfl | rfl | rfl | rfl | rfl <;> decide
  · obtain ⟨x1, a1, s1, e1, h1, hx⟩ := l01Good_some h0
    rw [if_neg g, e1]
    exact ⟨_, _, _, rfl, h1, hx⟩
theorem l01DrawWords_l1 {c : List Int} : ∀ (d : Nat) (out : List ByteArray) (a s : Int), Src c a s → out.length + d = 61 → (∀ w ∈ out, w.size ≤ 17) → ∃ x a' s', Ev (fun k => spec_l01DrawWords.l1 k out c a s) (x, a', s') ∧ Src c a' s' ∧ x.length ≤ 61 ∧ ∀ w ∈ x, w.size ≤ 17 := by
  intro d
  induction d with
  | zero =>
    intro out a s h ho hz
    obtain ⟨x0, a0, s0, e0, h0, b0, c0, _⟩ := l01Next_some h (n := 2) (by omega)
    have c0 := c0 (by omega)
    refine ⟨out, a0, s0, Ev.step (fun k => spec_l01DrawWords.l1.eq_2 ..) (ev_bind0 e0 ?_), h0, by omega, hz⟩
    dsimp only
    rw [w64 (n := 60 + x0) (by omega) (by omega)]
    exact ev_neg (by omega) (Ev.now _)
  | succ d ih =>
    intro out a s h ho hz
    obtain ⟨x0, a0, s0, e0, h0, b0, c0, _⟩ := l01Next_some h (n := 2) (by omega)
    have c0 := c0 (by omega)
    by_cases g : (out.length : Int) < 60 + x0
    · obtain ⟨x, a', s', e, h', hx, hx'⟩ := ih (out ++ [(⟨#[97, 100, 97]⟩ : ByteArray)]) a0 s0 h0 (by simp; omega) (by
        intro w hw
        rcases List.mem_append.1 hw with hw | hw
        · exact hz w hw
        · simp only [List.mem_singleton] at hw; subst hw; decide)
      refine ⟨x, a', s', Ev.step (fun k => spec_l01DrawWords.l1.eq_2 ..) (ev_bind0 e0 ?_), h', hx, hx'⟩
      dsimp only
      rw [w64 (n := 60 + x0) (by omega) (by omega)]
      exact ev_pos g (ev_pos (by omega) e)
    · refine ⟨out, a0, s0, Ev.step (fun k => spec_l01DrawWords.l1.eq_2 ..) (ev_bind0 e0 ?_), h0, by omega, hz⟩
      dsimp only
      rw [w64 (n := 60 + x0) (by omega) (by omega)]
      exact ev_neg g (Ev.now _)
theorem l01DrawWords_l0 {c : List Int} : ∀ (d : Nat) (out : List ByteArray) (a s : Int), Src c a s → out.length + d ≤ 60 → (∀ w ∈ out, w.size ≤ 17) → ∃ x a' s', Ev (fun k => spec_l01DrawWords.l0 k out (d : Int) c a s) (x, a', s') ∧ Src c a' s' ∧ x.length ≤ 61 ∧ ∀ w ∈ x, w.size ≤ 17 := by
  intro d
  induction d with
  | zero =>
    intro out a s h ho hz
    obtain ⟨x0, a0, s0, e0, h0, _⟩ := l01Next_some h (n := 24) (by omega)
    by_cases g : x0 = 0
    · obtain ⟨x, a', s', e, h', hx⟩ := l01DrawWords_l1 (61 - out.length) out a0 s0 h0 (by omega) hz
      exact ⟨x, a', s', Ev.step (fun k => spec_l01DrawWords.l0.eq_2 ..) (ev_neg (by omega) (ev_bind0 e0 (ev_pos g e))), h', hx⟩
    · exact ⟨_, _, _, Ev.step (fun k => spec_l01DrawWords.l0.eq_2 ..) (ev_neg (by omega) (ev_bind0 e0 (ev_neg g (Ev.now _)))), h0, by omega, hz⟩
  | succ d ih =>
    intro out a s h ho hz
    obtain ⟨x0, a0, s0, e0, h0, b0⟩ := l01DrawWord_some h
    obtain ⟨x, a', s', e, h', hx⟩ := ih (out ++ [x0]) a0 s0 h0 (by simp; omega) (by
      intro w hw
      rcases List.mem_append.1 hw with hw | hw
      · exact hz w hw
      · simp only [List.mem_singleton] at hw; subst hw; exact b0)
    refine ⟨x, a', s', Ev.step (fun k => spec_l01DrawWords.l0.eq_2 ..) (ev_pos (by omega) (ev_bind0 e0 (ev_pos (by omega) ?_))), h', hx⟩
    dsimp only
    rw [w64 (by omega) (by omega), show ((d + 1 : Nat) : Int) - 1 = (d : Int) by omega]
    exact e
theorem l01DrawWords_ev {c : List Int} {a s : Int} (h : Src c a s) : ∃ x a' s', Ev (fun k => spec_l01DrawWords.f k c a s) (x, a', s') ∧ Src c a' s' ∧ x.length ≤ 61 ∧ ∀ w ∈ x, w.size ≤ 17 := by
  obtain ⟨x0, a0, s0, e0, h0, b0, c0, _⟩ := l01Next_some h (n := 6) (by omega)
  have c0 := c0 (by omega)
  obtain ⟨x, a', s', e, h', hx⟩ := l01DrawWords_l0 x0.toNat [] a0 s0 h0 (by simp; omega) (by simp)
  refine ⟨x, a', s', ev_bind0 e0 ?_, h', hx⟩
  dsimp only
  rw [show x0 = ((x0.toNat : Nat) : Int) by omega]
  exact e

theorem DrawWordsText_ev {c : List Int} (hc : Code c) : ∃ x, Ev (fun k => spec_DrawWordsText.f k c) x ∧ x.length ≤ 61 ∧ ∀ w ∈ x, w.size ≤ 17 := by
  obtain ⟨s, e, h⟩ := l01From_ev hc
  obtain ⟨x, a', s', e1, h1, hx⟩ := l01DrawWords_ev h
  exact ⟨x, e.bind (e1.bind (Ev.now _)), hx⟩
theorem DrawReadWords_ev {c : List Int} (hc : Code c) : ∃ t, Ev (fun k => spec_DrawReadWords.f k c) t ∧ t.size ≤ 10000 := by
  obtain ⟨s, e, h⟩ := l01From_ev hc
  obtain ⟨x, a', s', e1, h1, hx, hz⟩ := l01DrawWords_ev h
  obtain ⟨t, et, ht⟩ := spec_l01Words_ev x (by omega) (fun w hw => by have := hz w hw; omega)
  have hl := joi_len' (ws := x.map bytesOf) (fun w hw => by obtain ⟨v, hv, rfl⟩ := List.mem_map.1 hw; rw [bytesOf_length]; have := hz v hv; omega)
  rw [List.length_map] at hl
  have hs := sz_bo' ht
  obtain ⟨x0, a0, s0, e0, h0, _⟩ := l01Next_some h1 (n := 3) (by omega)
  by_cases g : x0 = 0
  · obtain ⟨r, a5, s5, e5, h5, hr⟩ := l01Damage_some h0 (t := t) (by omega)
    exact ⟨r, e.bind (e1.bind (et.bind (ev_bind0 e0 (ev_pos g (ev_bind0 e5 (Ev.now _)))))), by omega⟩
  · exact ⟨t, e.bind (e1.bind (et.bind (ev_bind0 e0 (ev_neg g (Ev.now _))))), by omega⟩
theorem main : laws_FnWords.Pure := by
  intro c _ _ hw
  apply Ev.rounds
  unfold laws_FnWords.f
  by_cases g : (c.length : Int) > 4096
  · exact ev_bind0 (big_true g) (ev_pos rfl (Ev.now _))
  refine ev_bind0 (big_false g) (ev_neg (by decide) ?_)
  have hc := code_of hw g
  obtain ⟨x, ex, hx, hxz⟩ := DrawWordsText_ev hc
  obtain ⟨s, es, hs⟩ := DrawReadWords_ev hc
  obtain ⟨⟨t, bad⟩, a, b, hb⟩ := WordsText_both x (by omega) (fun w hw => by have := hxz w hw; omega)
  have p := impl_ReadWords_ev s (by omega)
  have q := spec_ReadWords_ev s (by omega)
  have hy := readW_len s
  revert p q hy
  generalize hq : readW s = yy
  obtain ⟨y, one⟩ := yy
  intro p q hy
  simp only at hy
  have hk := likeTexts_ev y (by omega)
  refine ex.bind (a.bind (b.bind (es.bind (p.bind (q.bind (ev_pos rfl (ev_pos rfl (ev_pos rfl (hk.bind ?_)))))))))
  refine Ev.step (fun k => laws_FnWords.j0.eq_2 ..) (ev_neg (by simp) ?_)
  have back : Ev (fun k => laws_FnWords.j1 k x t bad) true := by
    refine Ev.step (fun k => laws_FnWords.j1.eq_2 ..) ?_
    rcases hb with ⟨h1, h⟩ | ⟨h1, h2, h3⟩
    · obtain ⟨rfl, rfl⟩ := Prod.mk.inj h
      exact ev_neg h1 (Ev.now _)
    · simp only at h2 h3
      subst h3
      have hl := wordsL_len (ws := x) (fun n hn => by have := hxz n hn; omega)
      have hz := sz_bo' h2
      have p' := impl_ReadWords_ev t (by omega)
      rw [read_wordsL h1 h2] at p'
      exact ev_pos rfl (p'.bind (ev_pos rfl ((likeTexts_ev x (by omega)).bind (Ev.now _))))
  dsimp only
  by_cases g0 : one = 0
  · subst g0
    have hr := wordsL_read hq
    have hyz : ∀ w ∈ y, w.size ≤ 1000000 := fun w hw => by
      have := (wordL_az (wordsAll_mem (wordsM_iff.1 hr.2).1 w hw)).2.2
      rw [bytesOf_length] at this; omega
    obtain ⟨⟨u, n⟩, eu, hu⟩ := impl_WordsText_ev y (by omega) hyz
    rcases hu with ⟨h1, h⟩ | ⟨h1, h2, h3⟩
    · exact absurd hr.2 h1
    · simp only at h2 h3
      subst h3
      exact ev_pos rfl (eu.bind (ev_pos rfl (ev_pos (toList_eq.2 (bo_inj (by rw [h2, hr.1]))) back)))
  · exact ev_neg g0 back

end Go.Proofs.Ytgcjjpaljfgiaaa.PureFnWords
namespace Go.Proofs.Ytgcjjpaljfgiaaa.Pure
theorem FnWords : QFnWords.laws_FnWords.Pure := PureFnWords.main
end Go.Proofs.Ytgcjjpaljfgiaaa.Pure
