/- WordsText answers what the reference's answers, for all arguments; no condition. -/
import Derived.Test.YtgcjjpaljfgiaaaMa
import Derived.Test.YtgcjjpaljfgiaaaQFnExactWordsTextx
import Derived.Test.YtgcjjpaljfgiaaaHandFnExactWordsText
namespace Go.Proofs.Ytgcjjpaljfgiaaa.GoFnExactWordsText
open Go.RowKit Go.Proofs.Ytgcjjpaljfgiaaa.QFnExactWordsText Go.Proofs.YtgcjjpaljfgiaaaW.PrintWords Go.Proofs.YtgcjjpaljfgiaaaW.PrintLast Go.Proofs.Ytgcjjpaljfgiaaa.Ma Go.Proofs.Ytgcjjpaljfgiaaa.HandFnExactWordsText
set_option linter.unusedVariables false
set_option linter.unusedSimpArgs false

/-! ### division, ranges -/
theorem in_eq (a b c : Int) : spec_l01In.f a b c = some (decide (b ≤ a ∧ a ≤ c)) := by
  unfold spec_l01In.f
  by_cases h : b ≤ a <;> simp [h]
theorem tdiv_floor {a b : Int} (hb : 0 < b) : (Int.tmod a b < 0 → Int.tdiv a b - 1 = a / b) ∧ (¬ Int.tmod a b < 0 → Int.tdiv a b = a / b) := by
  have h1 := Int.tdiv_eq_ediv (a := a) (b := b)
  have h2 := Int.tmod_eq_emod (a := a) (b := b)
  have h3 := Int.emod_nonneg a (show b ≠ 0 by omega)
  have h4 := Int.emod_lt_of_pos a hb
  by_cases h : 0 ≤ a ∨ b ∣ a
  · rw [if_pos h] at h1 h2
    omega
  · rw [if_neg h] at h1 h2
    rw [Int.sign_eq_one_of_pos hb] at h1
    omega
theorem ediv_small {a b : Int} (hb : 0 < b) (h : -4611686018427387904 ≤ a) (h' : a ≤ 4611686018427387904) : -4611686018427387904 ≤ a / b ∧ a / b ≤ 4611686018427387904 := by
  have h1 : -4611686018427387904 * b ≤ a := by
    have := Int.mul_le_mul_of_nonneg_left (show 1 ≤ b by omega) (show (0 : Int) ≤ 4611686018427387904 by omega); omega
  have h2 : a < (4611686018427387904 + 1) * b := by
    have := Int.mul_le_mul_of_nonneg_left (show 1 ≤ b by omega) (show (0 : Int) ≤ 4611686018427387905 by omega); omega
  have h3 := (Int.le_ediv_iff_mul_le hb).2 h1
  have h4 := (Int.ediv_lt_iff_lt_mul hb).2 h2
  omega
/-! ### words joined by commas -/
def jr : List (List Int) → List Int
  | [] => []
  | w :: ws => 44 :: (w ++ jr ws)
theorem joi_jr : ∀ (w : List Int) (ws : List (List Int)), joi 44 (w :: ws) = w ++ jr ws
  | w, [] => by simp [joi, jr]
  | w, v :: ws => by rw [joi_cons 44 w (by simp), joi_jr v ws]; rfl
def joP (i : Nat) (ws : List (List Int)) : List Int := if i = 0 then joi 44 ws else jr ws
theorem joP_nil (i : Nat) : joP i [] = [] := by unfold joP; split <;> rfl
theorem joP_zero (w : List Int) (ws : List (List Int)) : joP 0 (w :: ws) = w ++ joP 1 ws := by
  unfold joP; rw [if_pos rfl, if_neg (by omega), joi_jr]
theorem joP_succ (i : Nat) (w : List Int) (ws : List (List Int)) : joP (i + 1) (w :: ws) = 44 :: (w ++ joP (i + 2) ws) := by
  unfold joP; rw [if_neg (by omega), if_neg (by omega)]; rfl
theorem bo_comma : bytesOf (⟨#[44]⟩ : ByteArray) = [44] := rfl
theorem sz_comma : (⟨#[44]⟩ : ByteArray).size = 1 := rfl
theorem impl_joinWith_l0 (ws : List ByteArray) (hl : ws.length ≤ 1000000) (hz : ∀ w ∈ ws, w.size ≤ 1000000) : ∀ (R : List ByteArray) (i : Nat) (A : ByteArray), ws.drop i = R → A.size ≤ i * 2000000 →
    ∃ r, Ev (fun k => impl_joinWith.l0 k ⟨#[44]⟩ A ws (ws.length : Int) i) r ∧ bytesOf r = bytesOf A ++ joP i (R.map bytesOf) := by
  intro R
  induction R with
  | nil =>
    intro i A h hA
    have := drop_nil h
    exact ⟨A, Ev.step (fun k => impl_joinWith.l0.eq_2 ..) (ev_neg (by omega) (Ev.now _)), by simp [joP_nil]⟩
  | cons w R ih =>
    intro i A h hA
    obtain ⟨h1, h2, h3⟩ := rdOf_drop (d := ByteArray.empty) h
    have hw : w ∈ ws := by
      have : w ∈ ws.drop i := by rw [h]; simp
      exact List.mem_of_mem_drop this
    have hws := hz w hw
    cases i with
    | zero =>
      obtain ⟨r, er, hr⟩ := ih 1 (A ++ w) h3 (by rw [ByteArray.size_append]; omega)
      refine ⟨r, Ev.step (fun k => impl_joinWith.l0.eq_2 ..) (ev_pos (by omega) (ev_pos (by omega) (ev_pos (by omega) (ev_neg (by omega) ?_)))), ?_⟩
      · rw [h2, w64 (by omega) (by omega)]
        exact ev_pos (by omega) er
      · rw [hr, bo_app, List.map_cons, joP_zero, List.append_assoc]
    | succ i =>
      obtain ⟨r, er, hr⟩ := ih (i + 2) ((A ++ ⟨#[44]⟩) ++ w) h3 (by rw [ByteArray.size_append, ByteArray.size_append, sz_comma]; omega)
      refine ⟨r, Ev.step (fun k => impl_joinWith.l0.eq_2 ..) (ev_pos (by omega) (ev_pos (by omega) (ev_pos (by omega) (ev_pos (by omega) ?_)))), ?_⟩
      · rw [h2, w64 (n := ((i + 1 : Nat) : Int) + 1) (by omega) (by omega)]
        exact ev_pos (by rw [sz_comma]; omega) (ev_pos (by rw [ByteArray.size_append, sz_comma]; omega) er)
      · rw [hr, bo_app, bo_app, bo_comma, List.map_cons, joP_succ, List.append_assoc, List.append_assoc, List.singleton_append]
theorem impl_joinWith_ev (ws : List ByteArray) (hl : ws.length ≤ 1000000) (hz : ∀ w ∈ ws, w.size ≤ 1000000) : ∃ r, Ev (fun k => impl_joinWith.f k ws ⟨#[44]⟩) r ∧ bytesOf r = joi 44 (ws.map bytesOf) := by
  obtain ⟨r, er, hr⟩ := impl_joinWith_l0 ws hl hz ws 0 ⟨#[]⟩ rfl (by have : (⟨#[]⟩ : ByteArray).size = 0 := rfl; omega)
  exact ⟨r, er, by rw [hr, bo_nil]; rfl⟩
theorem spec_l01Words_l0 (ws : List ByteArray) (hl : ws.length ≤ 1000000) (hz : ∀ w ∈ ws, w.size ≤ 1000000) : ∀ (R : List ByteArray) (i : Nat) (A : ByteArray), ws.drop i = R → A.size ≤ i * 2000000 →
    ∃ r, Ev (fun k => spec_l01Words.l0 k ws ⟨#[44]⟩ A i) r ∧ bytesOf r = bytesOf A ++ joP i (R.map bytesOf) := by
  intro R
  induction R with
  | nil =>
    intro i A h hA
    have := drop_nil h
    exact ⟨A, Ev.step (fun k => spec_l01Words.l0.eq_2 ..) (ev_neg (by omega) (Ev.now _)), by simp [joP_nil]⟩
  | cons w R ih =>
    intro i A h hA
    obtain ⟨h1, h2, h3⟩ := rdOf_drop (d := ByteArray.empty) h
    have hw : w ∈ ws := by
      have : w ∈ ws.drop i := by rw [h]; simp
      exact List.mem_of_mem_drop this
    have hws := hz w hw
    cases i with
    | zero =>
      obtain ⟨r, er, hr⟩ := ih 1 (A ++ w) h3 (by rw [ByteArray.size_append]; omega)
      refine ⟨r, Ev.step (fun k => spec_l01Words.l0.eq_2 ..) (ev_pos (by omega) (ev_neg (by omega) (ev_pos (by omega) ?_))), ?_⟩
      · rw [h2, w64 (by omega) (by omega)]
        exact ev_pos (by omega) er
      · rw [hr, bo_app, List.map_cons, joP_zero, List.append_assoc]
    | succ i =>
      obtain ⟨r, er, hr⟩ := ih (i + 2) ((A ++ ⟨#[44]⟩) ++ w) h3 (by rw [ByteArray.size_append, ByteArray.size_append, sz_comma]; omega)
      refine ⟨r, Ev.step (fun k => spec_l01Words.l0.eq_2 ..) (ev_pos (by omega) (ev_pos (by omega) (ev_pos (by rw [sz_comma]; omega) (ev_pos (by omega) ?_)))), ?_⟩
      · rw [h2, w64 (n := ((i + 1 : Nat) : Int) + 1) (by omega) (by omega)]
        exact ev_pos (by rw [ByteArray.size_append, sz_comma]; omega) er
      · rw [hr, bo_app, bo_app, bo_comma, List.map_cons, joP_succ, List.append_assoc, List.append_assoc, List.singleton_append]
theorem spec_l01Words_ev (ws : List ByteArray) (hl : ws.length ≤ 1000000) (hz : ∀ w ∈ ws, w.size ≤ 1000000) : ∃ r, Ev (fun k => spec_l01Words.f k ws ⟨#[44]⟩) r ∧ bytesOf r = joi 44 (ws.map bytesOf) := by
  obtain ⟨r, er, hr⟩ := spec_l01Words_l0 ws hl hz ws 0 ⟨#[]⟩ rfl (by have : (⟨#[]⟩ : ByteArray).size = 0 := rfl; omega)
  exact ⟨r, er, by rw [hr, bo_nil]; rfl⟩

/-! ### IsWord -/
def az (c : Int) : Bool := decide (97 ≤ c) && decide (c ≤ 122)
def wordL (l : List Int) : Bool := decide (1 ≤ l.length) && decide (l.length ≤ 16) && l.all az
theorem az_lo {c : Int} (h : c < 97) : az c = false := by unfold az; simp; omega
theorem az_hi {c : Int} (h : c > 122) : az c = false := by unfold az; simp; omega
theorem az_in {c : Int} (h : ¬ c < 97) (h' : ¬ c > 122) : az c = true := by unfold az; simp; omega
theorem spec_l01In_eq (a b c : Int) : spec_l01In.f a b c = some (decide (b ≤ a) && decide (a ≤ c)) := by
  unfold spec_l01In.f
  by_cases h : b ≤ a <;> simp [h]
theorem spec_IsWord_l0 (s : ByteArray) (hs : s.size ≤ 4611686018427387904) : ∀ (R : List Int) (i : Nat), (bytesOf s).drop i = R → i ≤ s.size → Ev (fun k => spec_IsWord.l0 k s i) (R.all az && (decide (1 ≤ (s.size : Int)) && decide ((s.size : Int) ≤ 16))) := by
  intro R
  induction R with
  | nil =>
    intro i h hi
    have := bo_drop_nil h
    refine Ev.step (fun k => spec_IsWord.l0.eq_2 ..) ?_
    refine ev_neg (by omega) (ev_bind0 (spec_l01In_eq ..) (ev_ret ?_))
    simp
  | cons c R ih =>
    intro i h hi
    obtain ⟨h1, h2, h3⟩ := bt_drop h
    refine Ev.step (fun k => spec_IsWord.l0.eq_2 ..) ?_
    refine ev_pos (by omega) (ev_pos (by omega) ?_)
    rw [h2, w64 (by omega) (by omega)]
    by_cases a : c < 97
    · exact ev_pos a (ev_ret (by simp [az_lo a]))
    · refine ev_neg a ?_
      by_cases b : c > 122
      · exact ev_pos b (ev_ret (by simp [az_hi b]))
      · refine ev_neg b ?_
        have := ih (i + 1) h3 (by omega)
        rw [List.all_cons, az_in a b, Bool.true_and]
        exact this
theorem spec_IsWord_ev (s : ByteArray) (hs : s.size ≤ 4611686018427387904) : Ev (fun k => spec_IsWord.f k s) (wordL (bytesOf s)) := by
  have h := spec_IsWord_l0 s hs (bytesOf s) 0 rfl (by omega)
  unfold spec_IsWord.f
  have e : wordL (bytesOf s) = ((bytesOf s).all az && (decide (1 ≤ (s.size : Int)) && decide ((s.size : Int) ≤ 16))) := by
    unfold wordL; rw [bytesOf_length, Bool.and_comm]
    congr 2 <;> exact decide_eq_decide.2 (by omega)
  rw [e]; exact h

theorem impl_IsWord_l0 (s : ByteArray) (hs : s.size ≤ 4611686018427387904) : ∀ (R : List Int) (i : Nat), (bytesOf s).drop i = R → i ≤ s.size → Ev (fun k => impl_IsWord.l0 k s i) (R.all az) := by
  intro R
  induction R with
  | nil =>
    intro i h hi
    have := bo_drop_nil h
    refine Ev.step (fun k => impl_IsWord.l0.eq_2 ..) ?_
    exact ev_neg (by omega) (ev_ret rfl)
  | cons c R ih =>
    intro i h hi
    obtain ⟨h1, h2, h3⟩ := bt_drop h
    refine Ev.step (fun k => impl_IsWord.l0.eq_2 ..) ?_
    refine ev_pos (by omega) (ev_pos (by omega) ?_)
    rw [h2, w64 (by omega) (by omega)]
    by_cases a : c < 97
    · exact ev_pos a (ev_ret (by simp [az_lo a]))
    · refine ev_neg a ?_
      by_cases b : c > 122
      · exact ev_pos b (ev_ret (by simp [az_hi b]))
      · refine ev_neg b ?_
        have := ih (i + 1) h3 (by omega)
        rw [List.all_cons, az_in a b, Bool.true_and]
        exact this
theorem impl_IsWord_ev (s : ByteArray) (hs : s.size ≤ 4611686018427387904) : Ev (fun k => impl_IsWord.f k s) (wordL (bytesOf s)) := by
  have h := impl_IsWord_l0 s hs (bytesOf s) 0 rfl (by omega)
  have hb := bytesOf_length s
  unfold impl_IsWord.f wordL
  by_cases a : (s.size : Int) < 1
  · refine ev_pos a (Ev.step (fun k => impl_IsWord.j0.eq_2 ..) (ev_pos rfl (ev_ret ?_)))
    simp; omega
  · refine ev_neg a (Ev.step (fun k => impl_IsWord.j0.eq_2 ..) ?_)
    by_cases b : (s.size : Int) > 16
    · refine ev_pos (by simpa using b) (ev_ret ?_)
      simp; omega
    · refine ev_neg (by simpa using b) ?_
      have e : (decide (1 ≤ (bytesOf s).length) && decide ((bytesOf s).length ≤ 16) && (bytesOf s).all az) = (bytesOf s).all az := by
        simp; intro _; omega
      rw [e]; exact h

/-! ### splitting -/
def splB (b : Int) (s : ByteArray) : List ByteArray := (spl b [] (bytesOf s)).map strOfNums
theorem cur_ext (s : ByteArray) (f i : Nat) : strOfNums (((bytesOf s).take i).drop f) = s.extract f i := by
  rw [← bo_ext, of_bo]
theorem spl_len (b : Int) : ∀ (l cur : List Int), (spl b cur l).length ≤ l.length + 1
  | [], cur => by simp [spl]
  | c :: l, cur => by
    unfold spl
    split
    · have := spl_len b l []
      simp only [List.length_cons]; omega
    · have := spl_len b l (cur ++ [c])
      simp only [List.length_cons]; omega
theorem spl_byte (b : Int) : ∀ (l cur : List Int), (∀ c ∈ cur, byte c) → (∀ c ∈ l, byte c) → ∀ w ∈ spl b cur l, ∀ c ∈ w, byte c
  | [], cur, h, _, w, hw, c, hc => by
    simp only [spl, List.mem_singleton] at hw; subst hw; exact h c hc
  | d :: l, cur, h, k, w, hw, c, hc => by
    unfold spl at hw
    split at hw
    · rcases List.mem_cons.1 hw with rfl | hw
      · exact h c hc
      · exact spl_byte b l [] (by simp) (fun x hx => k x (by simp [hx])) w hw c hc
    · refine spl_byte b l _ ?_ (fun x hx => k x (by simp [hx])) w hw c hc
      intro x hx
      rcases List.mem_append.1 hx with hx | hx
      · exact h x hx
      · simp only [List.mem_singleton] at hx; subst hx; exact k x (by simp)
theorem splB_bo (b : Int) (s : ByteArray) : (splB b s).map bytesOf = spl b [] (bytesOf s) := by
  unfold splB
  rw [List.map_map]
  conv => rhs; rw [← List.map_id (spl b [] (bytesOf s))]
  apply List.map_congr_left
  intro w hw
  exact bo_of w (spl_byte b (bytesOf s) [] (by simp) (bo_byte s) w hw)
theorem splB_len (b : Int) (s : ByteArray) : (splB b s).length ≤ s.size + 1 := by
  unfold splB
  rw [List.length_map]
  have := spl_len b (bytesOf s) []
  rwa [bytesOf_length] at this
theorem spl_word_len (b : Int) : ∀ (l cur : List Int), ∀ w ∈ spl b cur l, w.length ≤ cur.length + l.length
  | [], cur, w, hw => by simp only [spl, List.mem_singleton] at hw; subst hw; simp
  | d :: l, cur, w, hw => by
    unfold spl at hw
    split at hw
    · rcases List.mem_cons.1 hw with rfl | hw
      · simp
      · have := spl_word_len b l [] w hw
        simp at this ⊢; omega
    · have := spl_word_len b l _ w hw
      simp at this ⊢; omega
theorem splB_size (b : Int) (s : ByteArray) : ∀ w ∈ splB b s, w.size ≤ s.size := by
  intro w hw
  have h1 : bytesOf w ∈ spl b [] (bytesOf s) := by rw [← splB_bo]; exact List.mem_map_of_mem hw
  have h2 := spl_word_len b (bytesOf s) [] _ h1
  rw [bytesOf_length, bytesOf_length] at h2
  simpa using h2

/-! ### words read -/
theorem dash_iff2 (s : ByteArray) : s.toList = ([45] : List UInt8) ↔ bytesOf s = [45] := by
  constructor
  · intro h
    have e : s = ⟨#[45]⟩ := by
      apply toList_eq.1
      rw [h, ByteArray.toList_eq]
    rw [e]; rfl
  · intro h
    have e : s = ⟨#[45]⟩ := bo_inj (by rw [h]; rfl)
    rw [e, ByteArray.toList_eq]
def wordsAll (ws : List ByteArray) : Bool := ws.all (fun w => wordL (bytesOf w))
def readW (s : ByteArray) : List ByteArray × Int :=
  if bytesOf s = [45] then ([], 0) else if wordsAll (splB 44 s) = true ∧ (splB 44 s).length ≤ 60 then (splB 44 s, 0) else ([], 6)
theorem spec_l01All_l0 (ws : List ByteArray) (hl : ws.length ≤ 2000000) (hz : ∀ w ∈ ws, w.size ≤ 1000000) : ∀ (R : List ByteArray) (i : Nat), ws.drop i = R → Ev (fun k => spec_l01All.l0 k ws i) (wordsAll R) := by
  intro R
  induction R with
  | nil =>
    intro i h
    have := drop_nil h
    exact Ev.step (fun k => spec_l01All.l0.eq_2 ..) (ev_neg (by omega) (Ev.now _))
  | cons w R ih =>
    intro i h
    obtain ⟨h1, h2, h3⟩ := rdOf_drop (d := ByteArray.empty) h
    have hw : w ∈ ws := by
      have : w ∈ ws.drop i := by rw [h]; simp
      exact List.mem_of_mem_drop this
    refine Ev.step (fun k => spec_l01All.l0.eq_2 ..) (ev_pos (by omega) (ev_pos (by omega) ?_))
    rw [h2, w64 (n := (i : Int) + 1) (by omega) (by omega)]
    refine (spec_IsWord_ev w (by have := hz w hw; omega)).bind ?_
    by_cases a : wordL (bytesOf w) = true
    · refine ev_pos a ?_
      have e : wordsAll (w :: R) = wordsAll R := by simp [wordsAll, a]
      rw [e]; exact ih (i + 1) h3
    · exact ev_neg a (ev_ret (by simp [wordsAll, a]))
theorem spec_l01All_ev (ws : List ByteArray) (hl : ws.length ≤ 2000000) (hz : ∀ w ∈ ws, w.size ≤ 1000000) : Ev (fun k => spec_l01All.f k ws) (wordsAll ws) := spec_l01All_l0 ws hl hz ws 0 rfl
/-! ### words, written -/
theorem sz_bo' {s : ByteArray} {l : List Int} (h : bytesOf s = l) : s.size = l.length := by rw [← h, bytesOf_length]
def wordsL (ws : List ByteArray) : List Int := if ws = [] then [45] else joi 44 (ws.map bytesOf)
def wordsM (ws : List ByteArray) : Int := if wordsAll ws = true then (if ws.length > 60 then 3 else 0) else 1
def WordsT (ws : List ByteArray) (r : ByteArray × Int) : Prop := (wordsM ws ≠ 0 ∧ r = (⟨#[]⟩, wordsM ws)) ∨ (wordsM ws = 0 ∧ bytesOf r.1 = wordsL ws ∧ r.2 = 0)
theorem wordsT_uniq {l : List ByteArray} {a b : ByteArray × Int} (h : WordsT l a) (k : WordsT l b) : a = b := by
  rcases h with ⟨h1, rfl⟩ | ⟨h1, h2, h3⟩ <;> rcases k with ⟨k1, rfl⟩ | ⟨k1, k2, k3⟩
  · rfl
  · exact absurd k1 h1
  · exact absurd h1 k1
  · obtain ⟨a1, a2⟩ := a; obtain ⟨b1, b2⟩ := b
    simp only at *
    rw [h3, k3, bo_inj (h2.trans k2.symm)]
theorem wordsM_iff {ws : List ByteArray} : wordsM ws = 0 ↔ (wordsAll ws = true ∧ ws.length ≤ 60) := by
  unfold wordsM
  constructor
  · intro h
    split at h
    · split at h
      · omega
      · exact ⟨by assumption, by omega⟩
    · omega
  · intro ⟨h, k⟩
    rw [if_pos h, if_neg (by omega)]
theorem spec_WordsText_ev (ws : List ByteArray) (hl : ws.length ≤ 1000000) (hz : ∀ w ∈ ws, w.size ≤ 1000000) : ∃ r, Ev (fun k => spec_WordsText.f k ws) r ∧ WordsT ws r := by
  have ha := spec_l01All_ev ws (by omega) hz
  by_cases a : wordsAll ws = true
  · by_cases b : (ws.length : Int) > 60
    · have e : wordsM ws = 3 := by unfold wordsM; rw [if_pos a, if_pos (by omega)]
      exact ⟨_, ha.bind (ev_pos a (ev_pos b (Ev.now _))), .inl ⟨by omega, by rw [e]⟩⟩
    · have e : wordsM ws = 0 := wordsM_iff.2 ⟨a, by omega⟩
      by_cases c : ws = []
      · exact ⟨_, ha.bind (ev_pos a (ev_neg b (ev_pos (by simp [c]) (Ev.now _)))), .inr ⟨e, by unfold wordsL; rw [if_pos c]; rfl, rfl⟩⟩
      · obtain ⟨r, er, hr⟩ := spec_l01Words_ev ws hl hz
        exact ⟨(r, 0), ha.bind (ev_pos a (ev_neg b (ev_neg (by have := List.length_pos_iff.2 c; omega) (er.bind (Ev.now _))))), .inr ⟨e, by unfold wordsL; rw [if_neg c]; exact hr, rfl⟩⟩
  · have e : wordsM ws = 1 := by unfold wordsM; rw [if_neg a]
    exact ⟨_, ha.bind (ev_neg a (Ev.now _)), .inl ⟨by omega, by rw [e]⟩⟩
theorem impl_WordsText_l0 (ws : List ByteArray) (hl : ws.length ≤ 1000000) (hz : ∀ w ∈ ws, w.size ≤ 1000000) : ∀ (R : List ByteArray) (i : Nat), ws.drop i = R → wordsAll ws = wordsAll R → ∃ r, Ev (fun k => impl_WordsText.l0 k ws ws (ws.length : Int) i) r ∧ WordsT ws r := by
  intro R
  induction R with
  | nil =>
    intro i h hA
    have := drop_nil h
    have a : wordsAll ws = true := by rw [hA]; rfl
    by_cases b : (ws.length : Int) > 60
    · have e : wordsM ws = 3 := by unfold wordsM; rw [if_pos a, if_pos (by omega)]
      exact ⟨_, Ev.step (fun k => impl_WordsText.l0.eq_2 ..) (ev_neg (by omega) (ev_pos b (Ev.now _))), .inl ⟨by omega, by rw [e]⟩⟩
    · have e : wordsM ws = 0 := wordsM_iff.2 ⟨a, by omega⟩
      by_cases c : ws = []
      · exact ⟨_, Ev.step (fun k => impl_WordsText.l0.eq_2 ..) (ev_neg (by omega) (ev_neg b (ev_pos (by simp [c]) (Ev.now _)))), .inr ⟨e, by unfold wordsL; rw [if_pos c]; rfl, rfl⟩⟩
      · obtain ⟨r, er, hr⟩ := impl_joinWith_ev ws hl hz
        exact ⟨(r, 0), Ev.step (fun k => impl_WordsText.l0.eq_2 ..) (ev_neg (by omega) (ev_neg b (ev_neg (by have := List.length_pos_iff.2 c; omega) (er.bind (Ev.now _))))), .inr ⟨e, by unfold wordsL; rw [if_neg c]; exact hr, rfl⟩⟩
  | cons w R ih =>
    intro i h hA
    obtain ⟨h1, h2, h3⟩ := rdOf_drop (d := ByteArray.empty) h
    have hw : w ∈ ws := by
      have : w ∈ ws.drop i := by rw [h]; simp
      exact List.mem_of_mem_drop this
    have hi := impl_IsWord_ev w (by have := hz w hw; omega)
    by_cases a : wordL (bytesOf w) = true
    · have e : wordsAll (w :: R) = wordsAll R := by simp [wordsAll, a]
      obtain ⟨r, er, hr⟩ := ih (i + 1) h3 (hA.trans e)
      refine ⟨r, Ev.step (fun k => impl_WordsText.l0.eq_2 ..) (ev_pos (by omega) (ev_pos (by omega) (ev_pos (by omega) ?_))), hr⟩
      rw [h2, w64 (n := (i : Int) + 1) (by omega) (by omega)]
      exact hi.bind (ev_pos a er)
    · have e : wordsAll (w :: R) = false := by simp [wordsAll, a]
      have e1 : wordsM ws = 1 := by unfold wordsM; rw [if_neg (by rw [hA, e]; decide)]
      refine ⟨_, Ev.step (fun k => impl_WordsText.l0.eq_2 ..) (ev_pos (by omega) (ev_pos (by omega) (ev_pos (by omega) ?_))), .inl ⟨by omega, by rw [e1]⟩⟩
      rw [h2]
      exact hi.bind (ev_neg a (Ev.now _))
theorem impl_WordsText_ev (ws : List ByteArray) (hl : ws.length ≤ 1000000) (hz : ∀ w ∈ ws, w.size ≤ 1000000) : ∃ r, Ev (fun k => impl_WordsText.f k ws) r ∧ WordsT ws r :=
  impl_WordsText_l0 ws hl hz ws 0 rfl rfl
theorem WordsText_both (ws : List ByteArray) (hl : ws.length ≤ 1000000) (hz : ∀ w ∈ ws, w.size ≤ 1000000) : ∃ r, Ev (fun k => impl_WordsText.f k ws) r ∧ Ev (fun k => spec_WordsText.f k ws) r ∧ WordsT ws r := by
  obtain ⟨a, ha, ha'⟩ := impl_WordsText_ev ws hl hz
  obtain ⟨b, hb, hb'⟩ := spec_WordsText_ev ws hl hz
  obtain rfl := wordsT_uniq ha' hb'
  exact ⟨a, ha, hb, ha'⟩
/-! #### there and back -/
theorem wordL_az {l : List Int} (h : wordL l = true) : (∀ c ∈ l, 97 ≤ c ∧ c ≤ 122) ∧ 1 ≤ l.length ∧ l.length ≤ 16 := by
  unfold wordL at h
  simp only [Bool.and_eq_true, decide_eq_true_eq, List.all_eq_true] at h
  refine ⟨fun c hc => ?_, h.1.1, h.1.2⟩
  have := h.2 c hc
  unfold az at this
  simp only [Bool.and_eq_true, decide_eq_true_eq] at this
  exact this
theorem wordsAll_mem {ws : List ByteArray} (h : wordsAll ws = true) : ∀ w ∈ ws, wordL (bytesOf w) = true := by
  unfold wordsAll at h
  exact List.all_eq_true.1 h
theorem wordsL_read {s : ByteArray} {x : List ByteArray} (h : readW s = (x, 0)) : wordsL x = bytesOf s ∧ wordsM x = 0 := by
  unfold readW at h
  split at h
  · rename_i e
    obtain ⟨rfl, _⟩ := Prod.mk.inj h
    exact ⟨by unfold wordsL; rw [if_pos rfl, e], wordsM_iff.2 ⟨rfl, by simp⟩⟩
  · split at h
    · rename_i e
      obtain ⟨rfl, _⟩ := Prod.mk.inj h
      have hne : splB 44 s ≠ [] := by
        intro e2
        have := splB_bo 44 s
        rw [e2] at this
        exact spl_ne 44 (bytesOf s) [] this.symm
      refine ⟨?_, wordsM_iff.2 e⟩
      unfold wordsL
      rw [if_neg hne, splB_bo, joi_spl]; rfl
    · have := (Prod.mk.inj h).2; omega
theorem joi_dash' {ws : List (List Int)} (h : ws ≠ []) (h44 : ∀ w ∈ ws, (44 : Int) ∉ w) (h45 : ∀ w ∈ ws, w ≠ [45]) : joi 44 ws ≠ [45] := by
  intro e
  have := spl_joi 44 ws h h44
  rw [e] at this
  have e2 : spl 44 [] [45] = [[45]] := by simp [spl]
  rw [e2] at this
  exact h45 [45] (by rw [← this]; simp) rfl
theorem read_wordsL {ws : List ByteArray} {s : ByteArray} (h : wordsM ws = 0) (e : bytesOf s = wordsL ws) : readW s = (ws, 0) := by
  obtain ⟨h1, h2⟩ := wordsM_iff.1 h
  unfold wordsL at e
  unfold readW
  by_cases a : ws = []
  · rw [if_pos a] at e
    rw [if_pos e, a]
  · rw [if_neg a] at e
    have hne : ws.map bytesOf ≠ [] := by simpa using a
    have hm : ∀ w ∈ ws.map bytesOf, (∀ c ∈ w, 97 ≤ c ∧ c ≤ 122) := by
      intro w hw
      obtain ⟨v, hv, rfl⟩ := List.mem_map.1 hw
      exact (wordL_az (wordsAll_mem h1 v hv)).1
    have h44 : ∀ w ∈ ws.map bytesOf, (44 : Int) ∉ w := fun w hw h => by have := hm w hw 44 h; omega
    have h45 : ∀ w ∈ ws.map bytesOf, w ≠ [45] := fun w hw h => by have := hm w hw 45 (by rw [h]; simp); omega
    have es : splB 44 s = ws := by
      unfold splB
      rw [e, spl_joi 44 _ hne h44, List.map_map]
      conv => rhs; rw [← List.map_id ws]
      apply List.map_congr_left
      intro w _
      exact of_bo w
    rw [if_neg (by rw [e]; exact joi_dash' hne h44 h45), es, if_pos ⟨h1, h2⟩]
theorem jr_len' : ∀ (ws : List (List Int)), (∀ w ∈ ws, w.length ≤ 20) → (jr ws).length ≤ 21 * ws.length
  | [], _ => by simp [jr]
  | w :: ws, h => by
    have h1 := h w (by simp)
    have h2 := jr_len' ws (fun v hv => h v (by simp [hv]))
    simp only [jr, List.length_cons, List.length_append]
    omega
theorem joi_len' {ws : List (List Int)} (h : ∀ w ∈ ws, w.length ≤ 20) : (joi 44 ws).length ≤ 21 * ws.length := by
  cases ws with
  | nil => simp [joi]
  | cons w ws =>
    have h1 := h w (by simp)
    have h2 := jr_len' ws (fun v hv => h v (by simp [hv]))
    rw [joi_jr]
    simp only [List.length_cons, List.length_append]
    omega
theorem wordsL_len {ws : List ByteArray} (h : ∀ w ∈ ws, w.size ≤ 20) : (wordsL ws).length ≤ 21 * ws.length + 1 := by
  unfold wordsL
  split
  · simp
  · have := joi_len' (ws := ws.map bytesOf) (fun w hw => by obtain ⟨v, hv, rfl⟩ := List.mem_map.1 hw; rw [bytesOf_length]; exact h v hv)
    rw [List.length_map] at this
    omega
theorem readW_len (s : ByteArray) : (readW s).1.length ≤ 60 := by
  unfold readW
  split
  · simp
  · split
    · rename_i h; exact h.2
    · simp

/-! ### lists marked and held -/
theorem set_mid {α : Type} (P R : List α) (c m : α) : (P ++ c :: R).set P.length m = P ++ m :: R := by
  rw [List.set_append_right _ _ (by omega)]; simp
theorem drop_mid {α : Type} (P R : List α) : (P ++ R).drop P.length = R := by simp
def mkI (m : Int) : Nat → List Int
  | 0 => []
  | n + 1 => m :: mkI (m + 1) n
theorem mkI_len : ∀ (n : Nat) (m : Int), (mkI m n).length = n
  | 0, _ => rfl
  | n + 1, m => by simp [mkI, mkI_len n]
/-! #### the same of strings -/
theorem eqStringS_l0 (l : List ByteArray) (hl : l.length ≤ 4611686018427387904) : ∀ (R : List ByteArray) (i : Nat), l.drop i = R → Ev (fun k => laws_eqStringS.l0 k l l i) true := by
  intro R
  induction R with
  | nil =>
    intro i h
    have := drop_nil h
    exact Ev.step (fun k => laws_eqStringS.l0.eq_2 ..) (ev_neg (by omega) (Ev.now _))
  | cons c R ih =>
    intro i h
    obtain ⟨h1, h2, h3⟩ := rdOf_drop (d := ByteArray.empty) h
    refine Ev.step (fun k => laws_eqStringS.l0.eq_2 ..) (ev_pos (by omega) (ev_pos (by omega) (ev_pos (by omega) (ev_pos rfl ?_))))
    rw [w64 (n := (i : Int) + 1) (by omega) (by omega)]
    exact ih (i + 1) h3
theorem eqStringS_ev (l : List ByteArray) (hl : l.length ≤ 4611686018427387904) : Ev (fun k => laws_eqStringS.f k l l) true := by
  have h := eqStringS_l0 l hl l 0 rfl
  exact ev_pos rfl h
/-! ### slices laid out with room behind -/
theorem room_some (n : Nat) (h : n ≤ 1000000000) : ∃ t, laws_roomBehind.f (n : Int) = some t ∧ 0 ≤ t ∧ t ≤ 1000000000 := by
  unfold laws_roomBehind.f
  split
  · exact ⟨_, rfl, by omega, by omega⟩
  · split
    · exact ⟨_, rfl, by omega, by omega⟩
    · exact ⟨_, rfl, by omega, by omega⟩
theorem take_set_ge {α : Type} (x : List α) (n j : Nat) (v : α) (h : n ≤ j) : (x.set j v).take n = x.take n := by
  rw [List.take_set, List.set_eq_of_length_le (by rw [List.length_take]; omega)]
theorem take_set_next {α : Type} (x l : List α) (i : Nat) (c : α) (hi : i < x.length) (hc : l[i]? = some c) (h : x.take i = l.take i) : (x.set i c).take (i + 1) = l.take (i + 1) := by
  obtain ⟨y, hy⟩ : ∃ y, x[i]? = some y := ⟨x[i], List.getElem?_eq_getElem hi⟩
  have hl : (x.set i c)[i]? = some c := by rw [List.getElem?_set_self hi]
  rw [List.take_add_one, List.take_add_one, hl, hc, take_set_ge _ _ _ _ (Nat.le_refl i), h]

theorem toStringSF_l1 (l : List ByteArray) (hl : l.length ≤ 1000000000) : ∀ (d : Nat) (x : List ByteArray) (j : Nat), x.length - j = d → x.length ≤ 3000000000 → l.length ≤ j → j ≤ x.length → x.take l.length = l →
    ∃ L, Ev (fun k => laws_toStringSF.l1 k l x (j : Int)) L ∧ L.length = x.length ∧ L.take l.length = l := by
  intro d
  induction d with
  | zero =>
    intro x j hd hx hj hjx ht
    exact ⟨x, Ev.step (fun k => laws_toStringSF.l1.eq_2 ..) (ev_neg (by omega) (ev_pos (by omega) (ev_pos (by omega) (Ev.now _)))), rfl, ht⟩
  | succ d ih =>
    intro x j hd hx hj hjx ht
    obtain ⟨L, e, h1, h2⟩ := ih (x.set j (⟨#[126, 115, 112, 97, 114, 101, 126]⟩ : ByteArray)) (j + 1) (by rw [List.length_set]; omega) (by rw [List.length_set]; omega) (by omega) (by rw [List.length_set]; omega) (by rw [take_set_ge _ _ _ _ hj, ht])
    refine ⟨L, Ev.step (fun k => laws_toStringSF.l1.eq_2 ..) (ev_pos (by omega) (ev_pos (by omega) ?_)), by rw [h1, List.length_set], h2⟩
    rw [Int.toNat_natCast, w64 (n := (j : Int) + 1) (by omega) (by omega)]
    exact e
theorem toStringSF_l0 (l : List ByteArray) (hl : l.length ≤ 1000000000) : ∀ (R : List ByteArray) (i : Nat) (x : List ByteArray), l.drop i = R → i ≤ l.length → l.length ≤ x.length → x.length ≤ 3000000000 → x.take i = l.take i →
    ∃ L, Ev (fun k => laws_toStringSF.l0 k l x (i : Int)) L ∧ L.length = x.length ∧ L.take l.length = l := by
  intro R
  induction R with
  | nil =>
    intro i x h hi hx hx' ht
    have h1 := drop_nil h
    obtain ⟨L, e, h2⟩ := toStringSF_l1 l hl (x.length - l.length) x l.length rfl hx' (Nat.le_refl _) hx (by rw [show l.length = i by omega, ht, List.take_of_length_le h1])
    exact ⟨L, Ev.step (fun k => laws_toStringSF.l0.eq_2 ..) (ev_neg (by omega) e), h2⟩
  | cons c R ih =>
    intro i x h hi hx hx' ht
    obtain ⟨h1, h2, h3⟩ := rdOf_drop (d := ByteArray.empty) h
    obtain ⟨_, hc, _⟩ := drop_cons h
    obtain ⟨L, e, h4, h5⟩ := ih (i + 1) (x.set i c) h3 (by omega) (by rw [List.length_set]; omega) (by rw [List.length_set]; omega) (take_set_next x l i c (by omega) hc ht)
    refine ⟨L, Ev.step (fun k => laws_toStringSF.l0.eq_2 ..) (ev_pos (by omega) (ev_pos (by omega) (ev_pos (by omega) ?_))), by rw [h4, List.length_set], h5⟩
    rw [h2, Int.toNat_natCast, w64 (n := (i : Int) + 1) (by omega) (by omega)]
    exact e
theorem toStringSF_ev (l : List ByteArray) (hl : l.length ≤ 1000000000) {t : Int} (ht : laws_roomBehind.f (l.length : Int) = some t) (t0 : 0 ≤ t) (t1 : t ≤ 1000000000) : ∃ L, Ev (fun k => laws_toStringSF.f k l false) L ∧ (L.length : Int) = l.length + t ∧ L.take l.length = l := by
  obtain ⟨L, e, h1, h2⟩ := toStringSF_l0 l hl l 0 (List.replicate ((l.length : Int) + t).toNat (⟨#[]⟩ : ByteArray)) rfl (by omega) (by rw [List.length_replicate]; omega) (by rw [List.length_replicate]; omega) (by simp)
  rw [List.length_replicate] at h1
  refine ⟨L, ?_, by omega, h2⟩
  refine ev_neg (by decide) (Ev.step (fun k => laws_toStringSF.j0.eq_2 ..) (ev_neg (by decide) (ev_bind0 ht ?_)))
  rw [w64 (n := (l.length : Int) + t) (by omega) (by omega)]
  exact ev_pos (by omega) (ev_pos (by omega) e)
/-! #### the same, its room forgotten -/
theorem toStringS_l1 (l : List ByteArray) (hl : l.length ≤ 1000000000) : ∀ (d : Nat) (x : List ByteArray) (j : Nat), x.length - j = d → x.length ≤ 3000000000 → l.length ≤ j → j ≤ x.length → x.take l.length = l →
    Ev (fun k => laws_toStringS.l1 k l x (j : Int)) l := by
  intro d
  induction d with
  | zero =>
    intro x j hd hx hj hjx ht
    exact Ev.step (fun k => laws_toStringS.l1.eq_2 ..) (ev_neg (by omega) (ev_pos (by omega) (ev_pos (by omega) (ev_ret (by rw [Int.toNat_natCast, ht])))))
  | succ d ih =>
    intro x j hd hx hj hjx ht
    have e := ih (x.set j (⟨#[126, 115, 112, 97, 114, 101, 126]⟩ : ByteArray)) (j + 1) (by rw [List.length_set]; omega) (by rw [List.length_set]; omega) (by omega) (by rw [List.length_set]; omega) (by rw [take_set_ge _ _ _ _ hj, ht])
    refine Ev.step (fun k => laws_toStringS.l1.eq_2 ..) (ev_pos (by omega) (ev_pos (by omega) ?_))
    rw [Int.toNat_natCast, w64 (n := (j : Int) + 1) (by omega) (by omega)]
    exact e
theorem toStringS_l0 (l : List ByteArray) (hl : l.length ≤ 1000000000) : ∀ (R : List ByteArray) (i : Nat) (x : List ByteArray), l.drop i = R → i ≤ l.length → l.length ≤ x.length → x.length ≤ 3000000000 → x.take i = l.take i →
    Ev (fun k => laws_toStringS.l0 k l x (i : Int)) l := by
  intro R
  induction R with
  | nil =>
    intro i x h hi hx hx' ht
    have h1 := drop_nil h
    have e := toStringS_l1 l hl (x.length - l.length) x l.length rfl hx' (Nat.le_refl _) hx (by rw [show l.length = i by omega, ht, List.take_of_length_le h1])
    exact Ev.step (fun k => laws_toStringS.l0.eq_2 ..) (ev_neg (by omega) e)
  | cons c R ih =>
    intro i x h hi hx hx' ht
    obtain ⟨h1, h2, h3⟩ := rdOf_drop (d := ByteArray.empty) h
    obtain ⟨_, hc, _⟩ := drop_cons h
    have e := ih (i + 1) (x.set i c) h3 (by omega) (by rw [List.length_set]; omega) (by rw [List.length_set]; omega) (take_set_next x l i c (by omega) hc ht)
    refine Ev.step (fun k => laws_toStringS.l0.eq_2 ..) (ev_pos (by omega) (ev_pos (by omega) (ev_pos (by omega) ?_)))
    rw [h2, Int.toNat_natCast, w64 (n := (i : Int) + 1) (by omega) (by omega)]
    exact e
theorem toStringS_bare (l : List ByteArray) (hl : l.length ≤ 1000000000) : Ev (fun k => laws_toStringS.f k l true) l := by
  refine ev_pos rfl (Ev.step (fun k => laws_toStringS.j0.eq_2 ..) ?_)
  by_cases a : l.length = 0
  · exact ev_pos (by simp [a]) (ev_ret (by symm; exact List.length_eq_zero_iff.1 a))
  · obtain ⟨t, et, t0, t1⟩ := room_some l.length hl
    refine ev_neg (by simp; intro h; simp [h] at a) (ev_bind0 et ?_)
    rw [w64 (n := (l.length : Int) + t) (by omega) (by omega)]
    refine ev_pos (by omega) (ev_pos (by omega) ?_)
    exact toStringS_l0 l hl l 0 (List.replicate ((l.length : Int) + t).toNat (⟨#[]⟩ : ByteArray)) rfl (by omega) (by rw [List.length_replicate]; omega) (by rw [List.length_replicate]; omega) (by simp)

/-! ### sizes -/
theorem maxLen_eq : maxLen ≤ 9223372036854775807 := by unfold maxLen; decide
theorem szStringS_l0 (l : List ByteArray) (hl : l.length ≤ 1000000) (hz : ∀ s ∈ l, s.size ≤ maxLen) : ∀ (R : List ByteArray) (i : Nat) (a : Int), l.drop i = R → 0 ≤ a → a ≤ 1000000 →
    ∃ z, Ev (fun k => laws_szStringS.l0 k l a i) z ∧ (0 ≤ z → ∀ s ∈ R, s.size ≤ 1000000) := by
  intro R
  induction R with
  | nil =>
    intro i a h a0 a1
    have := drop_nil h
    exact ⟨a, Ev.step (fun k => laws_szStringS.l0.eq_2 ..) (ev_neg (by omega) (Ev.now _)), by simp⟩
  | cons c R ih =>
    intro i a h a0 a1
    have hm := maxLen_eq
    obtain ⟨h1, h2, h3⟩ := rdOf_drop (d := ByteArray.empty) h
    have hc : c ∈ l := by
      have : c ∈ l.drop i := by rw [h]; simp
      exact List.mem_of_mem_drop this
    have hcs := hz c hc
    by_cases g : a - (c.size : Int) < 0
    · refine ⟨-1, Ev.step (fun k => laws_szStringS.l0.eq_2 ..) (ev_pos (by omega) (ev_pos (by omega) ?_)), by omega⟩
      rw [h2, w64 (n := a - (c.size : Int)) (by omega) (by omega)]
      exact ev_pos g (Ev.now _)
    · obtain ⟨z, ez, hzz⟩ := ih (i + 1) (a - (c.size : Int)) h3 (by omega) (by omega)
      refine ⟨z, Ev.step (fun k => laws_szStringS.l0.eq_2 ..) (ev_pos (by omega) (ev_pos (by omega) ?_)), fun h0 s hs => ?_⟩
      · rw [h2, w64 (n := a - (c.size : Int)) (by omega) (by omega), w64 (n := (i : Int) + 1) (by omega) (by omega)]
        exact ev_neg g ez
      · rcases List.mem_cons.1 hs with rfl | hs
        · omega
        · exact hzz h0 s hs
theorem szStringS_ev (l : List ByteArray) (hl : l.length ≤ maxLen) (hz : ∀ s ∈ l, s.size ≤ maxLen) : ∃ z, Ev (fun k => laws_szStringS.f k l 1000000) z ∧ (0 ≤ z → l.length ≤ 1000000 ∧ ∀ s ∈ l, s.size ≤ 1000000) := by
  have hm := maxLen_eq
  unfold laws_szStringS.f
  rw [w64 (n := 1000000 - (l.length : Int)) (by omega) (by omega)]
  by_cases g : 1000000 - (l.length : Int) < 0
  · exact ⟨-1, ev_pos g (Ev.now _), by omega⟩
  · obtain ⟨z, ez, h⟩ := szStringS_l0 l (by omega) hz l 0 (1000000 - (l.length : Int)) rfl (by omega) (by omega)
    exact ⟨z, ev_neg g ez, fun h0 => ⟨by omega, h h0⟩⟩

theorem drawn_below {w w' : World} (h : Drawn0 w w') : Below w.heap.size w w' := by
  obtain ⟨n, rfl⟩ := h
  exact pw_below_drewN (Below.refl _ _) n
theorem takeC {w : World} {A : Option Addr} {l L : List ByteArray} (hLt : L.take l.length = l) (hLl : l.length ≤ L.length) (h : Kd.C Kd.string w A L.length L) : Kd.C Kd.string w A l.length l := by
  have := Kd.C_take (m := l.length) h hLl
  rwa [hLt] at this
set_option maxHeartbeats 8000000 in
set_option maxRecDepth 100000 in
theorem go (k : Nat) (A0 : Option Addr) (c0 : Nat) (l0 L : List ByteArray) (z : Int) (t : ByteArray) (b room : Int) (w : World) (hr0 : Kd.C Kd.string w A0 l0.length l0) (hc0 : l0.length ≤ c0) (hn : l0.length ≤ 1000000)
    (hsz : laws_szStringS.f k l0 1000000 = some z) (hz : ¬ z < 0)
    (hfull : laws_toStringSF.f k l0 false = some L) (hLt : L.take l0.length = l0) (hLl : l0.length ≤ L.length) (hLr : (L.length : Int) = l0.length + room) (hroom : laws_roomBehind.f (l0.length : Int) = some room) (hr0_ : 0 ≤ room) (hr1_ : room ≤ 1000000000000)
    (hbare : laws_toStringS.f k l0 true = some l0) (hspec : spec_WordsText.f k l0 = some (t, b)) (himpl : impl_WordsText.f k l0 = some (t, b)) (heq : laws_eqStringS.f k L L = some true) :
    Calls Try.prog 10 #[.slice A0 l0.length c0] w fun e w' => e = .returned (.bool true) ∧ Below w.heap.size w w' := by
  have takeC : ∀ {w : World} {A : Option Addr}, Kd.C Kd.string w A L.length L → Kd.C Kd.string w A l0.length l0 := takeC hLt hLl
  have HR0 := Aside0.mk hr0
  have HC0 := Aside0.mk hc0
  have HB := Aside0.mk (Below.refl w.heap.size w)
  have c2b0 : decide (z < 0) = false := decide_eq_false hz
  have c14b0 : (t.toList == t.toList) = true := by simp
  have c14b1 : (t.toList != t.toList) = false := by simp
  have c15b0 : (b == b) = true := by simp
  have c15b1 : (b != b) = false := by simp
  replace hn : l0.length ≤ 1000000000000 := by omega
  clear hr0 hc0 hz
  go_enter Try.func10, Try.ntmps10
  go_wp2_with (first | ((with_reducible refine gate_callee (f := 42) rfl ?_); refine goesL_ (some 13) rfl rfl Try.func42 (by kernel_rfl) rfl #[.slice A0 l0.length c0, .int .i64 1000000] rfl (by (try simp only [List.map_toArray, List.map_cons, List.map_nil]); first | done | rfl | (simp only [List.length_drop, List.length_take]; rfl) | (go_simp; done) | (simp; done) | (simp; rfl)) ?_; (with_reducible refine (laws_szStringS.calls k _ _ l0 1000000 z _ ?side1 ?side2 hsz).mono ?_); (case side1 => repeat (first | exact (Kd.C_below HR0.out (by repeat (first | (with_reducible first | exact HB.out | apply below_alloc | apply pw_below_drewN | apply below_drew1) | exact HB.out))) | (with_reducible refine Kd.C_alloc ?_ _) | (with_reducible refine Kd.C_drewN ?_ _) | (with_reducible refine Kd.C_drew ?_))); (case side2 => exact HC0.out); rintro e wo ⟨rfl, hd⟩; have hb := drawn_below hd; clear hd; refine ⟨_, rfl, ?_⟩; have nb_ := Aside0.mk (below_step (by repeat (first | (with_reducible first | exact HB.out | apply below_alloc | apply pw_below_drewN | apply below_drew1) | exact HB.out)) hb); clear HB; have HB := nb_; clear nb_ hb) | ((with_reducible refine gate_callee (f := 44) rfl ?_); refine goesL_ (some 18) rfl rfl Try.func44 (by kernel_rfl) rfl #[.slice A0 l0.length c0, .bool false] rfl (by (try simp only [List.map_toArray, List.map_cons, List.map_nil]); first | done | rfl | (simp only [List.length_drop, List.length_take]; rfl) | (go_simp; done) | (simp; done) | (simp; rfl)) ?_; (with_reducible refine (laws_toStringSF.calls k _ _ l0 false L _ ?side1 ?side2 hfull).mono ?_); (case side1 => repeat (first | exact (Kd.C_below HR0.out (by repeat (first | (with_reducible first | exact HB.out | apply below_alloc | apply pw_below_drewN | apply below_drew1) | exact HB.out))) | (with_reducible refine Kd.C_alloc ?_ _) | (with_reducible refine Kd.C_drewN ?_ _) | (with_reducible refine Kd.C_drew ?_))); (case side2 => exact HC0.out); rintro e wp ⟨Ap, cp, rfl, hR, _, hb⟩; have HKp := Aside0.mk (Kd.R_reads' hR).2.2; have HLp := Aside0.mk (Kd.R_reads' hR).2.1; clear hR; refine ⟨_, rfl, ?_⟩; have nb_ := Aside0.mk (below_step (by repeat (first | (with_reducible first | exact HB.out | apply below_alloc | apply pw_below_drewN | apply below_drew1) | exact HB.out)) hb); clear HB; have HB := nb_; clear nb_ hb) | ((with_reducible refine gate_callee (f := 43) rfl ?_); refine goesL_ (some 19) rfl rfl Try.func43 (by kernel_rfl) rfl #[.slice Ap l0.length cp] rfl (by (try simp only [List.map_toArray, List.map_cons, List.map_nil]); first | done | rfl | (simp only [List.length_drop, List.length_take]; rfl) | (go_simp; done) | (simp; done) | (simp; rfl)) ?_; (with_reducible refine (spec_WordsText.calls k _ _ l0 t b _ ?side1 ?side2 hspec).mono ?_); (case side1 => repeat (first | exact (takeC HKp.out) | (with_reducible refine Kd.C_alloc ?_ _) | (with_reducible refine Kd.C_drewN ?_ _) | (with_reducible refine Kd.C_drew ?_))); (case side2 => exact (Nat.le_trans hLl HLp.out)); rintro e wq ⟨rfl, hd⟩; have hb := drawn_below hd; clear hd; refine ⟨_, rfl, ?_⟩; have n0_ := Aside0.mk (Kd.C_below (by repeat (first | exact HKp.out | (with_reducible refine Kd.C_alloc ?_ _) | (with_reducible refine Kd.C_drewN ?_ _) | (with_reducible refine Kd.C_drew ?_))) hb); have nb_ := Aside0.mk (below_step (by repeat (first | (with_reducible first | exact HB.out | apply below_alloc | apply pw_below_drewN | apply below_drew1) | exact HB.out)) hb); clear HKp; clear HB; have HKp := n0_; have HB := nb_; clear n0_ nb_ hb) | ((with_reducible refine gate_callee (f := 44) rfl ?_); refine goesL_ (some 23) rfl rfl Try.func44 (by kernel_rfl) rfl #[.slice A0 l0.length c0, .bool false] rfl (by (try simp only [List.map_toArray, List.map_cons, List.map_nil]); first | done | rfl | (simp only [List.length_drop, List.length_take]; rfl) | (go_simp; done) | (simp; done) | (simp; rfl)) ?_; (with_reducible refine (laws_toStringSF.calls k _ _ l0 false L _ ?side1 ?side2 hfull).mono ?_); (case side1 => repeat (first | exact (Kd.C_below HR0.out (by repeat (first | (with_reducible first | exact HB.out | apply below_alloc | apply pw_below_drewN | apply below_drew1) | exact HB.out))) | (with_reducible refine Kd.C_alloc ?_ _) | (with_reducible refine Kd.C_drewN ?_ _) | (with_reducible refine Kd.C_drew ?_))); (case side2 => exact HC0.out); rintro e wx ⟨Ax, cx, rfl, hR, _, hb⟩; have HKx := Aside0.mk (Kd.R_reads' hR).2.2; have HLx := Aside0.mk (Kd.R_reads' hR).2.1; clear hR; refine ⟨_, rfl, ?_⟩; have nb_ := Aside0.mk (below_step (by repeat (first | (with_reducible first | exact HB.out | apply below_alloc | apply pw_below_drewN | apply below_drew1) | exact HB.out)) hb); clear HB; have HB := nb_; clear nb_ hb) | ((with_reducible refine gate_callee (f := 45) rfl ?_); refine goesL_ (some 26) rfl rfl Try.func45 (by kernel_rfl) rfl #[.slice Ax l0.length cx] rfl (by (try simp only [List.map_toArray, List.map_cons, List.map_nil]); first | done | rfl | (simp only [List.length_drop, List.length_take]; rfl) | (go_simp; done) | (simp; done) | (simp; rfl)) ?_; (with_reducible refine (impl_WordsText.calls k _ _ l0 t b _ ?side1 ?side2 himpl).mono ?_); (case side1 => repeat (first | exact (takeC HKx.out) | (with_reducible refine Kd.C_alloc ?_ _) | (with_reducible refine Kd.C_drewN ?_ _) | (with_reducible refine Kd.C_drew ?_))); (case side2 => exact (Nat.le_trans hLl HLx.out)); rintro e wr ⟨rfl, hd⟩; have hb := drawn_below hd; clear hd; refine ⟨_, rfl, ?_⟩; have n0_ := Aside0.mk (Kd.C_below (by repeat (first | exact HKx.out | (with_reducible refine Kd.C_alloc ?_ _) | (with_reducible refine Kd.C_drewN ?_ _) | (with_reducible refine Kd.C_drew ?_))) hb); have nb_ := Aside0.mk (below_step (by repeat (first | (with_reducible first | exact HB.out | apply below_alloc | apply pw_below_drewN | apply below_drew1) | exact HB.out)) hb); clear HKx; clear HB; have HKx := n0_; have HB := nb_; clear n0_ nb_ hb) | ((with_reducible refine gate_callee (f := 44) rfl ?_); refine goesL_ (some 39) rfl rfl Try.func44 (by kernel_rfl) rfl #[.slice A0 l0.length c0, .bool false] rfl (by (try simp only [List.map_toArray, List.map_cons, List.map_nil]); first | done | rfl | (simp only [List.length_drop, List.length_take]; rfl) | (go_simp; done) | (simp; done) | (simp; rfl)) ?_; (with_reducible refine (laws_toStringSF.calls k _ _ l0 false L _ ?side1 ?side2 hfull).mono ?_); (case side1 => repeat (first | exact (Kd.C_below HR0.out (by repeat (first | (with_reducible first | exact HB.out | apply below_alloc | apply pw_below_drewN | apply below_drew1) | exact HB.out))) | (with_reducible refine Kd.C_alloc ?_ _) | (with_reducible refine Kd.C_drewN ?_ _) | (with_reducible refine Kd.C_drew ?_))); (case side2 => exact HC0.out); rintro e wy ⟨Ay, cy, rfl, hR, _, hb⟩; have HKy := Aside0.mk (Kd.R_reads' hR).2.2; have HLy := Aside0.mk (Kd.R_reads' hR).2.1; clear hR; refine ⟨_, rfl, ?_⟩; have n0_ := Aside0.mk (Kd.C_below (by repeat (first | exact HKx.out | (with_reducible refine Kd.C_alloc ?_ _) | (with_reducible refine Kd.C_drewN ?_ _) | (with_reducible refine Kd.C_drew ?_))) hb); have nb_ := Aside0.mk (below_step (by repeat (first | (with_reducible first | exact HB.out | apply below_alloc | apply pw_below_drewN | apply below_drew1) | exact HB.out)) hb); clear HKx; clear HB; have HKx := n0_; have HB := nb_; clear n0_ nb_ hb) | ((with_reducible refine gate_callee (f := 46) rfl ?_); refine goesL_ (some 40) rfl rfl Try.func46 (by kernel_rfl) rfl #[.slice Ax l0.length cx, .slice Ay l0.length cy] rfl (by (try simp only [List.map_toArray, List.map_cons, List.map_nil]); first | done | rfl | (simp only [List.length_drop, List.length_take]; rfl) | (go_simp; done) | (simp; done) | (simp; rfl)) ?_; (with_reducible refine (laws_intactStringSF.calls k l0.length _ _ L _ _ L room _ ?side1 ?side2 ?side3 ?side4 hroom hn hr0_ hr1_ hLr hLr heq).mono ?_); (case side1 => repeat (first | exact HKx.out | (with_reducible refine Kd.C_alloc ?_ _) | (with_reducible refine Kd.C_drewN ?_ _) | (with_reducible refine Kd.C_drew ?_))); (case side2 => exact HLx.out); (case side3 => repeat (first | exact HKy.out | (with_reducible refine Kd.C_alloc ?_ _) | (with_reducible refine Kd.C_drewN ?_ _) | (with_reducible refine Kd.C_drew ?_))); (case side4 => exact HLy.out); rintro e ws ⟨rfl, hb⟩; refine ⟨_, rfl, ?_⟩; have n0_ := Aside0.mk (Kd.C_below (by repeat (first | exact HKx.out | (with_reducible refine Kd.C_alloc ?_ _) | (with_reducible refine Kd.C_drewN ?_ _) | (with_reducible refine Kd.C_drew ?_))) hb); have n1_ := Aside0.mk (Kd.C_below (by repeat (first | exact HKy.out | (with_reducible refine Kd.C_alloc ?_ _) | (with_reducible refine Kd.C_drewN ?_ _) | (with_reducible refine Kd.C_drew ?_))) hb); have nb_ := Aside0.mk (below_step (by repeat (first | (with_reducible first | exact HB.out | apply below_alloc | apply pw_below_drewN | apply below_drew1) | exact HB.out)) hb); clear HKx; clear HKy; clear HB; have HKx := n0_; have HKy := n1_; have HB := nb_; clear n0_ n1_ nb_ hb) | ((with_reducible refine gate_callee (f := 44) rfl ?_); refine goesL_ (some 44) rfl rfl Try.func44 (by kernel_rfl) rfl #[.slice A0 l0.length c0, .bool true] rfl (by (try simp only [List.map_toArray, List.map_cons, List.map_nil]); first | done | rfl | (simp only [List.length_drop, List.length_take]; rfl) | (go_simp; done) | (simp; done) | (simp; rfl)) ?_; (with_reducible refine (laws_toStringS.calls k _ _ l0 true l0 _ ?side1 ?side2 hbare).mono ?_); (case side1 => repeat (first | exact (Kd.C_below HR0.out (by repeat (first | (with_reducible first | exact HB.out | apply below_alloc | apply pw_below_drewN | apply below_drew1) | exact HB.out))) | (with_reducible refine Kd.C_alloc ?_ _) | (with_reducible refine Kd.C_drewN ?_ _) | (with_reducible refine Kd.C_drew ?_))); (case side2 => exact HC0.out); rintro e wz ⟨vz, rfl, hR, hb⟩; obtain ⟨Az, cz, ez⟩ := Kd.R_slice hR; subst ez; have HKz := Aside0.mk (Kd.R_reads' hR).2.2; have HLz := Aside0.mk (Kd.R_reads' hR).2.1; clear hR; refine ⟨_, rfl, ?_⟩; have nb_ := Aside0.mk (below_step (by repeat (first | (with_reducible first | exact HB.out | apply below_alloc | apply pw_below_drewN | apply below_drew1) | exact HB.out)) hb); clear HB; have HB := nb_; clear nb_ hb) | ((with_reducible refine gate_callee (f := 45) rfl ?_); refine goesL_ (some 45) rfl rfl Try.func45 (by kernel_rfl) rfl #[.slice Az l0.length cz] rfl (by (try simp only [List.map_toArray, List.map_cons, List.map_nil]); first | done | rfl | (simp only [List.length_drop, List.length_take]; rfl) | (go_simp; done) | (simp; done) | (simp; rfl)) ?_; (with_reducible refine (impl_WordsText.calls k _ _ l0 t b _ ?side1 ?side2 himpl).mono ?_); (case side1 => repeat (first | exact HKz.out | (with_reducible refine Kd.C_alloc ?_ _) | (with_reducible refine Kd.C_drewN ?_ _) | (with_reducible refine Kd.C_drew ?_))); (case side2 => exact HLz.out); rintro e wt ⟨rfl, hd⟩; have hb := drawn_below hd; clear hd; refine ⟨_, rfl, ?_⟩; have n0_ := Aside0.mk (Kd.C_below (by repeat (first | exact HKz.out | (with_reducible refine Kd.C_alloc ?_ _) | (with_reducible refine Kd.C_drewN ?_ _) | (with_reducible refine Kd.C_drew ?_))) hb); have nb_ := Aside0.mk (below_step (by repeat (first | (with_reducible first | exact HB.out | apply below_alloc | apply pw_below_drewN | apply below_drew1) | exact HB.out)) hb); clear HKz; clear HB; have HKz := n0_; have HB := nb_; clear n0_ nb_ hb))
  go_ret
  exact ⟨by first | rfl | (simp [errW_none, errW_some] <;> rfl) | (simp [*, errW_none, errW_some] <;> rfl), by repeat (first | (with_reducible first | exact HB.out | apply below_alloc | apply pw_below_drewN | apply below_drew1) | exact HB.out)⟩
set_option maxHeartbeats 8000000 in
set_option maxRecDepth 100000 in
theorem big (k : Nat) (A0 : Option Addr) (c0 : Nat) (l0 : List ByteArray) (z : Int) (w : World) (hr0 : Kd.C Kd.string w A0 l0.length l0) (hc0 : l0.length ≤ c0) (hsz : laws_szStringS.f k l0 1000000 = some z) (hz : z < 0) : Calls Try.prog 10 #[.slice A0 l0.length c0] w fun e w' => e = .returned (.bool true) ∧ Below w.heap.size w w' := by
  have HR0 := Aside0.mk hr0
  have HC0 := Aside0.mk hc0
  have HB := Aside0.mk (Below.refl w.heap.size w)
  have c2b0 : decide (z < 0) = true := decide_eq_true hz
  clear hr0 hc0 hz
  go_enter Try.func10, Try.ntmps10
  go_wp2_with (first | ((with_reducible refine gate_callee (f := 42) rfl ?_); refine goesL_ (some 13) rfl rfl Try.func42 (by kernel_rfl) rfl #[.slice A0 l0.length c0, .int .i64 1000000] rfl (by (try simp only [List.map_toArray, List.map_cons, List.map_nil]); first | done | rfl | (simp only [List.length_drop, List.length_take]; rfl) | (go_simp; done) | (simp; done) | (simp; rfl)) ?_; (with_reducible refine (laws_szStringS.calls k _ _ l0 1000000 z _ ?side1 ?side2 hsz).mono ?_); (case side1 => repeat (first | exact (Kd.C_below HR0.out (by repeat (first | (with_reducible first | exact HB.out | apply below_alloc | apply pw_below_drewN | apply below_drew1) | exact HB.out))) | (with_reducible refine Kd.C_alloc ?_ _) | (with_reducible refine Kd.C_drewN ?_ _) | (with_reducible refine Kd.C_drew ?_))); (case side2 => exact HC0.out); rintro e wo ⟨rfl, hd⟩; have hb := drawn_below hd; clear hd; refine ⟨_, rfl, ?_⟩; have nb_ := Aside0.mk (below_step (by repeat (first | (with_reducible first | exact HB.out | apply below_alloc | apply pw_below_drewN | apply below_drew1) | exact HB.out)) hb); clear HB; have HB := nb_; clear nb_ hb))
  go_ret
  exact ⟨by first | rfl | (simp [errW_none, errW_some] <;> rfl) | (simp [*, errW_none, errW_some] <;> rfl), by repeat (first | (with_reducible first | exact HB.out | apply below_alloc | apply pw_below_drewN | apply below_drew1) | exact HB.out)⟩
theorem ofRowS {w : World} {a : Option Addr} {len cap : Nat} {ss : List ByteArray} (h : (a = none ∧ len = 0 ∧ cap = 0 ∧ ss = []) ∨
  ∃ x, a = some x ∧ len ≤ cap ∧ cap ≤ maxLen ∧ ss.length = cap ∧ (∀ i, i < ss.length → w.cell? (x.add i) = some (.string (ss.getD i ByteArray.empty))) ∧ ∀ s ∈ ss, s.size ≤ maxLen) :
    ∃ l : List ByteArray, len = l.length ∧ Kd.C Kd.string w a l.length l ∧ l.length ≤ cap ∧ l.length ≤ maxLen ∧ ∀ s ∈ l, s.size ≤ maxLen := by
  rcases h with ⟨rfl, rfl, rfl, rfl⟩ | ⟨x, rfl, h1, h2, h3, h4, h5⟩
  · exact ⟨[], rfl, Kd.C_of_reads (d := ByteArray.empty) (h1 := fun _ => rfl) ⟨rfl, by simp, fun h => absurd h (by simp)⟩, by simp, by simp, by simp⟩
  · have hl : (ss.take len).length = len := by rw [List.length_take]; omega
    have hm := maxLen_eq
    refine ⟨ss.take len, hl.symm, ?_, by omega, by omega, fun s hs => h5 s (List.mem_of_mem_take hs)⟩
    rw [hl]
    refine Kd.C_of_reads (d := ByteArray.empty) (h1 := fun _ => rfl) ⟨hl, by omega, fun h => ⟨x, rfl, fun j hj => ?_⟩⟩
    rw [h4 j (by omega)]
    simp only [List.getD_eq_getElem?_getD, List.getElem?_take, hj, if_true]
theorem walk (W : World) (a0 : Option Addr) (len0 cap0 : Nat) (z0 : List ByteArray) (w0 : (a0 = none ∧ len0 = 0 ∧ cap0 = 0 ∧ z0 = []) ∨
  ∃ x, a0 = some x ∧ len0 ≤ cap0 ∧ cap0 ≤ maxLen ∧ z0.length = cap0 ∧ (∀ i, i < z0.length → W.cell? (x.add i) = some (.string (z0.getD i ByteArray.empty))) ∧ ∀ s ∈ z0, s.size ≤ maxLen) :
    Calls Try.prog 10 #[.slice a0 len0 cap0] W fun e w' => e = .returned (.bool true) ∧ Below W.heap.size W w' := by
  obtain ⟨l0, rfl, hr, hc0, hm, hz⟩ := ofRowS w0
  obtain ⟨z, ⟨K6, h6⟩, hzz⟩ := szStringS_ev l0 hm hz
  by_cases g : z < 0
  · exact big K6 a0 cap0 l0 z W hr hc0 (h6 _ (Nat.le_refl _)) g
  obtain ⟨hn, hs⟩ := hzz (by omega)
  obtain ⟨room, er, r0, r1⟩ := room_some l0.length (by omega)
  obtain ⟨L, eF, hF, hT⟩ := toStringSF_ev l0 (by omega) er r0 r1
  obtain ⟨⟨t, b⟩, ⟨K1, h1⟩, ⟨K2, h2⟩, _⟩ := WordsText_both l0 (by omega) hs
  obtain ⟨K3, h3⟩ := eF
  obtain ⟨K4, h4⟩ := toStringS_bare l0 (by omega)
  obtain ⟨K5, h5⟩ := eqStringS_ev L (by omega)
  exact go (K1 + K2 + K3 + K4 + K5 + K6) a0 cap0 l0 L z t b room W hr hc0 hn (h6 _ (by omega)) g (h3 _ (by omega)) hT (by omega) (by omega) er r0 (by omega) (h4 _ (by omega)) (h2 _ (by omega)) (h1 _ (by omega)) (h5 _ (by omega))


end Go.Proofs.Ytgcjjpaljfgiaaa.GoFnExactWordsText
