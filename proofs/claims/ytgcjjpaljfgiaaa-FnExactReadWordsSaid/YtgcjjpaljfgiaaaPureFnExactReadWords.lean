/- ReadWords answers what the reference's answers, for all texts up to a million bytes; no condition. -/
import Derived.Test.YtgcjjpaljfgiaaaMa
import Derived.Test.YtgcjjpaljfgiaaaPFnExactReadWordsx
namespace Go.Proofs.Ytgcjjpaljfgiaaa.PureFnExactReadWords
open Go.RowKit Go.Proofs.Ytgcjjpaljfgiaaa.PFnExactReadWords Go.Proofs.YtgcjjpaljfgiaaaW.PrintWords Go.Proofs.YtgcjjpaljfgiaaaW.PrintLast Go.Proofs.Ytgcjjpaljfgiaaa.Ma
set_option linter.unusedVariables false
set_option linter.unusedSimpArgs false

/-! ### IsWord -/
def az (c : Int) : Bool := decide (97 ≤ c) && decide (c ≤ 122)
def wordL (l : List Int) : Bool := decide (1 ≤ l.length) && decide (l.length ≤ 16) && l.all az
theorem az_lo {c : Int} (h : c < 97) : az c = false := by unfold az; simp; omega
theorem az_hi {c : Int} (h : c > 122) : az c = false := by unfold az; simp; omega
theorem az_in {c : Int} (h : ¬ c < 97) (h' : ¬ c > 122) : az c = true := by unfold az; simp; omega
theorem spec_l01In_eq (a b c : Int) : spec_l01In.f a b c = some (decide (b ≤ a) && decide (a ≤ c)) := by
  unfold spec_l01In.f
  by_cases h : b ≤ a <;> simp [h]
theorem spec_IsWord_l0 (s : ByteArray) (hs : s.size ≤ 4611686018427387904) : ∀ (R : List Int) (i : Nat), (bytesOf s).drop i = R → i ≤ s.size → Ev (fun k => spec_IsWord.l0 k s i) (R.all az && (decide (1 ≤ (s.size : Int)) && decide ((s.size : Int) ≤ 16))) := by
  intro R
  induction R with
  | nil =>
    intro i h hi
    have := bo_drop_nil h
    refine Ev.step (fun k => spec_IsWord.l0.eq_2 ..) ?_
    refine ev_neg (by omega) (ev_bind0 (spec_l01In_eq ..) (ev_ret ?_))
    simp
  | cons c R ih =>
    intro i h hi
    obtain ⟨h1, h2, h3⟩ := bt_drop h
    refine Ev.step (fun k => spec_IsWord.l0.eq_2 ..) ?_
    refine ev_pos (by omega) (ev_pos (by omega) ?_)
    rw [h2, w64 (by omega) (by omega)]
    by_cases a : c < 97
    · exact ev_pos a (ev_ret (by simp [az_lo a]))
    · refine ev_neg a ?_
      by_cases b : c > 122
      · exact ev_pos b (ev_ret (by simp [az_hi b]))
      · refine ev_neg b ?_
        have := ih (i + 1) h3 (by omega)
        rw [List.all_cons, az_in a b, Bool.true_and]
        exact this
theorem spec_IsWord_ev (s : ByteArray) (hs : s.size ≤ 4611686018427387904) : Ev (fun k => spec_IsWord.f k s) (wordL (bytesOf s)) := by
  have h := spec_IsWord_l0 s hs (bytesOf s) 0 rfl (by omega)
  unfold spec_IsWord.f
  have e : wordL (bytesOf s) = ((bytesOf s).all az && (decide (1 ≤ (s.size : Int)) && decide ((s.size : Int) ≤ 16))) := by
    unfold wordL; rw [bytesOf_length, Bool.and_comm]
    congr 2 <;> exact decide_eq_decide.2 (by omega)
  rw [e]; exact h

theorem impl_IsWord_l0 (s : ByteArray) (hs : s.size ≤ 4611686018427387904) : ∀ (R : List Int) (i : Nat), (bytesOf s).drop i = R → i ≤ s.size → Ev (fun k => impl_IsWord.l0 k s i) (R.all az) := by
  intro R
  induction R with
  | nil =>
    intro i h hi
    have := bo_drop_nil h
    refine Ev.step (fun k => impl_IsWord.l0.eq_2 ..) ?_
    exact ev_neg (by omega) (ev_ret rfl)
  | cons c R ih =>
    intro i h hi
    obtain ⟨h1, h2, h3⟩ := bt_drop h
    refine Ev.step (fun k => impl_IsWord.l0.eq_2 ..) ?_
    refine ev_pos (by omega) (ev_pos (by omega) ?_)
    rw [h2, w64 (by omega) (by omega)]
    by_cases a : c < 97
    · exact ev_pos a (ev_ret (by simp [az_lo a]))
    · refine ev_neg a ?_
      by_cases b : c > 122
      · exact ev_pos b (ev_ret (by simp [az_hi b]))
      · refine ev_neg b ?_
        have := ih (i + 1) h3 (by omega)
        rw [List.all_cons, az_in a b, Bool.true_and]
        exact this
theorem impl_IsWord_ev (s : ByteArray) (hs : s.size ≤ 4611686018427387904) : Ev (fun k => impl_IsWord.f k s) (wordL (bytesOf s)) := by
  have h := impl_IsWord_l0 s hs (bytesOf s) 0 rfl (by omega)
  have hb := bytesOf_length s
  unfold impl_IsWord.f wordL
  by_cases a : (s.size : Int) < 1
  · refine ev_pos a (Ev.step (fun k => impl_IsWord.j0.eq_2 ..) (ev_pos rfl (ev_ret ?_)))
    simp; omega
  · refine ev_neg a (Ev.step (fun k => impl_IsWord.j0.eq_2 ..) ?_)
    by_cases b : (s.size : Int) > 16
    · refine ev_pos (by simpa using b) (ev_ret ?_)
      simp; omega
    · refine ev_neg (by simpa using b) ?_
      have e : (decide (1 ≤ (bytesOf s).length) && decide ((bytesOf s).length ≤ 16) && (bytesOf s).all az) = (bytesOf s).all az := by
        simp; intro _; omega
      rw [e]; exact h

/-! ### splitting -/
def splB (b : Int) (s : ByteArray) : List ByteArray := (spl b [] (bytesOf s)).map strOfNums
theorem cur_ext (s : ByteArray) (f i : Nat) : strOfNums (((bytesOf s).take i).drop f) = s.extract f i := by
  rw [← bo_ext, of_bo]
theorem spl_len (b : Int) : ∀ (l cur : List Int), (spl b cur l).length ≤ l.length + 1
  | [], cur => by simp [spl]
  | c :: l, cur => by
    unfold spl
    split
    · have := spl_len b l []
      simp only [List.length_cons]; omega
    · have := spl_len b l (cur ++ [c])
      simp only [List.length_cons]; omega
theorem impl_splitAt_l0 (s : ByteArray) (b : Int) (hs : s.size ≤ 1000000) : ∀ (R : List Int) (i f : Nat) (out : List ByteArray), (bytesOf s).drop i = R → i ≤ s.size → f ≤ i → out.length ≤ i →
    Ev (fun k => impl_splitAt.l0 k s b out f i) (out ++ (spl b (((bytesOf s).take i).drop f) R).map strOfNums) := by
  intro R
  induction R with
  | nil =>
    intro i f out h hi hf ho
    have h1 := bo_drop_nil h
    refine Ev.step (fun k => impl_splitAt.l0.eq_2 ..) (ev_neg (by omega) (ev_pos (by omega) (ev_pos (by omega) (ev_pos (by omega) (ev_ret ?_)))))
    rw [spl.eq_1, List.map_singleton, cur_ext, Int.toNat_natCast, show i = s.size by omega]
  | cons c R ih =>
    intro i f out h hi hf ho
    obtain ⟨h1, h2, h3⟩ := bt_drop h
    refine Ev.step (fun k => impl_splitAt.l0.eq_2 ..) (ev_pos (by omega) (ev_pos (by omega) ?_))
    rw [h2, w64 (n := (i : Int) + 1) (by omega) (by omega), spl.eq_2]
    by_cases a : c = b
    · refine ev_pos a (ev_pos (by omega) (ev_pos (by omega) (ev_pos (by omega) (ev_pos (by omega) ?_))))
      rw [if_pos a, List.map_cons, cur_ext]
      have := ih (i + 1) (i + 1) (out ++ [s.extract f i]) h3 (by omega) (by omega) (by simp; omega)
      rw [List.drop_eq_nil_of_le (by rw [List.length_take]; omega), List.append_assoc] at this
      exact this
    · refine ev_neg a ?_
      rw [if_neg a]
      have := ih (i + 1) f out h3 (by omega) (by omega) (by omega)
      rw [snoc_take h, List.drop_append_of_le_length (by rw [List.length_take, bytesOf_length]; omega)] at this
      exact this
theorem impl_splitAt_ev (s : ByteArray) (b : Int) (hs : s.size ≤ 1000000) : Ev (fun k => impl_splitAt.f k s b) (splB b s) := by
  have := impl_splitAt_l0 s b hs (bytesOf s) 0 0 [] rfl (by omega) (by omega) (by simp)
  have h : Ev (fun k => impl_splitAt.l0 k s b [] 0 0) (splB b s) := by simpa [splB] using this
  exact h
theorem spec_l01Split_end (s : ByteArray) (b : Int) (out : List ByteArray) (hs : s.size ≤ 1000000) : Ev (fun k => spec_l01Split.l0 k s b out ((s.size + 1 : Nat) : Int) ((s.size + 1 : Nat) : Int)) out :=
  Ev.step (fun k => spec_l01Split.l0.eq_2 ..) (ev_neg (by omega) (Ev.now _))
theorem spec_l01Split_l0 (s : ByteArray) (b : Int) (hs : s.size ≤ 1000000) : ∀ (R : List Int) (i f : Nat) (out : List ByteArray), (bytesOf s).drop i = R → i ≤ s.size → f ≤ i → out.length ≤ i →
    Ev (fun k => spec_l01Split.l0 k s b out f i) (out ++ (spl b (((bytesOf s).take i).drop f) R).map strOfNums) := by
  intro R
  induction R with
  | nil =>
    intro i f out h hi hf ho
    have h1 := bo_drop_nil h
    refine Ev.step (fun k => spec_l01Split.l0.eq_2 ..) (ev_pos (by omega) (ev_pos (by omega) (ev_pos (by omega) (ev_pos (by omega) (ev_pos (by omega) ?_)))))
    rw [spl.eq_1, List.map_singleton, cur_ext, w64 (n := (i : Int) + 1) (by omega) (by omega), show (i : Int) + 1 = ((s.size + 1 : Nat) : Int) by omega, Int.toNat_natCast, Int.toNat_natCast]
    exact spec_l01Split_end s b _ hs
  | cons c R ih =>
    intro i f out h hi hf ho
    obtain ⟨h1, h2, h3⟩ := bt_drop h
    refine Ev.step (fun k => spec_l01Split.l0.eq_2 ..) (ev_pos (by omega) (ev_neg (by omega) (ev_pos (by omega) (ev_pos (by omega) ?_))))
    rw [h2, w64 (n := (i : Int) + 1) (by omega) (by omega), spl.eq_2]
    by_cases a : c = b
    · refine ev_pos a (ev_pos (by omega) (ev_pos (by omega) (ev_pos (by omega) ?_)))
      rw [if_pos a, List.map_cons, cur_ext]
      have := ih (i + 1) (i + 1) (out ++ [s.extract f i]) h3 (by omega) (by omega) (by simp; omega)
      rw [List.drop_eq_nil_of_le (by rw [List.length_take]; omega), List.append_assoc] at this
      exact this
    · refine ev_neg a ?_
      rw [if_neg a]
      have := ih (i + 1) f out h3 (by omega) (by omega) (by omega)
      rw [snoc_take h, List.drop_append_of_le_length (by rw [List.length_take, bytesOf_length]; omega)] at this
      exact this
theorem spec_l01Split_ev (s : ByteArray) (b : Int) (hs : s.size ≤ 1000000) : Ev (fun k => spec_l01Split.f k s b) (splB b s) := by
  have := spec_l01Split_l0 s b hs (bytesOf s) 0 0 [] rfl (by omega) (by omega) (by simp)
  have h : Ev (fun k => spec_l01Split.l0 k s b [] 0 0) (splB b s) := by simpa [splB] using this
  exact h
theorem spl_byte (b : Int) : ∀ (l cur : List Int), (∀ c ∈ cur, byte c) → (∀ c ∈ l, byte c) → ∀ w ∈ spl b cur l, ∀ c ∈ w, byte c
  | [], cur, h, _, w, hw, c, hc => by
    simp only [spl, List.mem_singleton] at hw; subst hw; exact h c hc
  | d :: l, cur, h, k, w, hw, c, hc => by
    unfold spl at hw
    split at hw
    · rcases List.mem_cons.1 hw with rfl | hw
      · exact h c hc
      · exact spl_byte b l [] (by simp) (fun x hx => k x (by simp [hx])) w hw c hc
    · refine spl_byte b l _ ?_ (fun x hx => k x (by simp [hx])) w hw c hc
      intro x hx
      rcases List.mem_append.1 hx with hx | hx
      · exact h x hx
      · simp only [List.mem_singleton] at hx; subst hx; exact k x (by simp)
theorem splB_bo (b : Int) (s : ByteArray) : (splB b s).map bytesOf = spl b [] (bytesOf s) := by
  unfold splB
  rw [List.map_map]
  conv => rhs; rw [← List.map_id (spl b [] (bytesOf s))]
  apply List.map_congr_left
  intro w hw
  exact bo_of w (spl_byte b (bytesOf s) [] (by simp) (bo_byte s) w hw)
theorem splB_len (b : Int) (s : ByteArray) : (splB b s).length ≤ s.size + 1 := by
  unfold splB
  rw [List.length_map]
  have := spl_len b (bytesOf s) []
  rwa [bytesOf_length] at this
theorem spl_word_len (b : Int) : ∀ (l cur : List Int), ∀ w ∈ spl b cur l, w.length ≤ cur.length + l.length
  | [], cur, w, hw => by simp only [spl, List.mem_singleton] at hw; subst hw; simp
  | d :: l, cur, w, hw => by
    unfold spl at hw
    split at hw
    · rcases List.mem_cons.1 hw with rfl | hw
      · simp
      · have := spl_word_len b l [] w hw
        simp at this ⊢; omega
    · have := spl_word_len b l _ w hw
      simp at this ⊢; omega
theorem splB_size (b : Int) (s : ByteArray) : ∀ w ∈ splB b s, w.size ≤ s.size := by
  intro w hw
  have h1 : bytesOf w ∈ spl b [] (bytesOf s) := by rw [← splB_bo]; exact List.mem_map_of_mem hw
  have h2 := spl_word_len b (bytesOf s) [] _ h1
  rw [bytesOf_length, bytesOf_length] at h2
  simpa using h2

/-! ### words read -/
theorem dash_iff2 (s : ByteArray) : s.toList = ([45] : List UInt8) ↔ bytesOf s = [45] := by
  constructor
  · intro h
    have e : s = ⟨#[45]⟩ := by
      apply toList_eq.1
      rw [h, ByteArray.toList_eq]
    rw [e]; rfl
  · intro h
    have e : s = ⟨#[45]⟩ := bo_inj (by rw [h]; rfl)
    rw [e, ByteArray.toList_eq]
def wordsAll (ws : List ByteArray) : Bool := ws.all (fun w => wordL (bytesOf w))
def readW (s : ByteArray) : List ByteArray × Int :=
  if bytesOf s = [45] then ([], 0) else if wordsAll (splB 44 s) = true ∧ (splB 44 s).length ≤ 60 then (splB 44 s, 0) else ([], 6)
theorem spec_l01All_l0 (ws : List ByteArray) (hl : ws.length ≤ 2000000) (hz : ∀ w ∈ ws, w.size ≤ 1000000) : ∀ (R : List ByteArray) (i : Nat), ws.drop i = R → Ev (fun k => spec_l01All.l0 k ws i) (wordsAll R) := by
  intro R
  induction R with
  | nil =>
    intro i h
    have := drop_nil h
    exact Ev.step (fun k => spec_l01All.l0.eq_2 ..) (ev_neg (by omega) (Ev.now _))
  | cons w R ih =>
    intro i h
    obtain ⟨h1, h2, h3⟩ := rdOf_drop (d := ByteArray.empty) h
    have hw : w ∈ ws := by
      have : w ∈ ws.drop i := by rw [h]; simp
      exact List.mem_of_mem_drop this
    refine Ev.step (fun k => spec_l01All.l0.eq_2 ..) (ev_pos (by omega) (ev_pos (by omega) ?_))
    rw [h2, w64 (n := (i : Int) + 1) (by omega) (by omega)]
    refine (spec_IsWord_ev w (by have := hz w hw; omega)).bind ?_
    by_cases a : wordL (bytesOf w) = true
    · refine ev_pos a ?_
      have e : wordsAll (w :: R) = wordsAll R := by simp [wordsAll, a]
      rw [e]; exact ih (i + 1) h3
    · exact ev_neg a (ev_ret (by simp [wordsAll, a]))
theorem spec_l01All_ev (ws : List ByteArray) (hl : ws.length ≤ 2000000) (hz : ∀ w ∈ ws, w.size ≤ 1000000) : Ev (fun k => spec_l01All.f k ws) (wordsAll ws) := spec_l01All_l0 ws hl hz ws 0 rfl
theorem spec_ReadWords_ev (s : ByteArray) (hs : s.size ≤ 1000000) : Ev (fun k => spec_ReadWords.f k s) (readW s) := by
  unfold spec_ReadWords.f readW
  have hl := splB_len 44 s
  by_cases a : bytesOf s = [45]
  · rw [if_pos a]; exact ev_pos ((dash_iff2 s).2 a) (Ev.now _)
  rw [if_neg a]
  refine ev_neg (fun h => a ((dash_iff2 s).1 h)) ((spec_l01Split_ev s 44 hs).bind ((spec_l01All_ev (splB 44 s) (by omega) (fun w hw => by have := splB_size 44 s w hw; omega)).bind ?_))
  by_cases b : wordsAll (splB 44 s) = true
  · refine ev_pos b ?_
    by_cases c : (splB 44 s).length ≤ 60
    · rw [if_pos (show wordsAll (splB 44 s) = true ∧ (splB 44 s).length ≤ 60 from ⟨b, c⟩)]; exact ev_neg (by omega) (Ev.now _)
    · rw [if_neg (show ¬ (wordsAll (splB 44 s) = true ∧ (splB 44 s).length ≤ 60) from fun h => c h.2)]; exact ev_pos (by omega) (Ev.now _)
  · rw [if_neg (show ¬ (wordsAll (splB 44 s) = true ∧ (splB 44 s).length ≤ 60) from fun h => b h.1)]; exact ev_neg b (Ev.now _)
theorem impl_ReadWords_l0 (x ws : List ByteArray) (hl : ws.length ≤ 2000000) (hz : ∀ w ∈ ws, w.size ≤ 1000000) : ∀ (R : List ByteArray) (i : Nat), ws.drop i = R → Ev (fun k => impl_ReadWords.l0 k x ws (ws.length : Int) i) (if wordsAll R = true then (x, 0) else ([], 6)) := by
  intro R
  induction R with
  | nil =>
    intro i h
    have := drop_nil h
    exact Ev.step (fun k => impl_ReadWords.l0.eq_2 ..) (ev_neg (by omega) (ev_ret (by simp [wordsAll])))
  | cons w R ih =>
    intro i h
    obtain ⟨h1, h2, h3⟩ := rdOf_drop (d := ByteArray.empty) h
    have hw : w ∈ ws := by
      have : w ∈ ws.drop i := by rw [h]; simp
      exact List.mem_of_mem_drop this
    refine Ev.step (fun k => impl_ReadWords.l0.eq_2 ..) (ev_pos (by omega) (ev_pos (by omega) (ev_pos (by omega) ?_)))
    rw [h2, w64 (n := (i : Int) + 1) (by omega) (by omega)]
    refine (impl_IsWord_ev w (by have := hz w hw; omega)).bind ?_
    by_cases a : wordL (bytesOf w) = true
    · refine ev_pos a ?_
      have e : wordsAll (w :: R) = wordsAll R := by simp [wordsAll, a]
      rw [e]; exact ih (i + 1) h3
    · exact ev_neg a (ev_ret (by simp [wordsAll, a]))
theorem impl_ReadWords_ev (s : ByteArray) (hs : s.size ≤ 1000000) : Ev (fun k => impl_ReadWords.f k s) (readW s) := by
  unfold impl_ReadWords.f readW
  have hl := splB_len 44 s
  by_cases a : bytesOf s = [45]
  · rw [if_pos a]; exact ev_pos ((dash_iff2 s).2 a) (Ev.now _)
  rw [if_neg a]
  refine ev_neg (fun h => a ((dash_iff2 s).1 h)) ((impl_splitAt_ev s 44 hs).bind ?_)
  by_cases c : (splB 44 s).length ≤ 60
  · refine ev_neg (by omega) ?_
    have := impl_ReadWords_l0 (splB 44 s) (splB 44 s) (by omega) (fun w hw => by have := splB_size 44 s w hw; omega) (splB 44 s) 0 rfl
    by_cases b : wordsAll (splB 44 s) = true
    · rw [if_pos (show wordsAll (splB 44 s) = true ∧ (splB 44 s).length ≤ 60 from ⟨b, c⟩)]; rw [if_pos b] at this; exact this
    · rw [if_neg (show ¬ (wordsAll (splB 44 s) = true ∧ (splB 44 s).length ≤ 60) from fun h => b h.1)]; rw [if_neg b] at this; exact this
  · rw [if_neg (show ¬ (wordsAll (splB 44 s) = true ∧ (splB 44 s).length ≤ 60) from fun h => c h.2)]; exact ev_pos (by omega) (Ev.now _)

/-! ### lists marked and held -/
theorem set_mid {α : Type} (P R : List α) (c m : α) : (P ++ c :: R).set P.length m = P ++ m :: R := by
  rw [List.set_append_right _ _ (by omega)]; simp
theorem drop_mid {α : Type} (P R : List α) : (P ++ R).drop P.length = R := by simp
def mkI (m : Int) : Nat → List Int
  | 0 => []
  | n + 1 => m :: mkI (m + 1) n
theorem mkI_len : ∀ (n : Nat) (m : Int), (mkI m n).length = n
  | 0, _ => rfl
  | n + 1, m => by simp [mkI, mkI_len n]
/-! #### the same of strings -/
theorem markText_l0 : ∀ (d : Nat) (n : Int) (t : ByteArray), 0 ≤ n → n ≤ d → n < 10 ^ 18 → t.size + d ≤ 4611686018427387904 → ∃ r, Ev (fun k => laws_markText.l0 k n t) r := by
  intro d
  induction d with
  | zero =>
    intro n t h0 h1 h2 h3
    exact ⟨_, Ev.step (fun k => laws_markText.l0.eq_2 ..) (ev_neg (by omega) (ev_pos (by omega) (Ev.now _)))⟩
  | succ d ih =>
    intro n t h0 h1 h2 h3
    by_cases a : n > 0
    · have z : (strOfNums [(wrap64 (48 + Int.tmod n 10)) % 256]).size = 1 := by
        have := bo_size (strOfNums [(wrap64 (48 + Int.tmod n 10)) % 256])
        rw [bo_of _ (by intro c hc; simp only [List.mem_singleton] at hc; subst hc; exact ⟨by omega, by omega⟩)] at this
        simp only [List.length_singleton] at this; omega
      have e : Int.tdiv n 10 = n / 10 := Int.tdiv_eq_ediv_of_nonneg h0
      obtain ⟨r, hr⟩ := ih (n / 10) (strOfNums [(wrap64 (48 + Int.tmod n 10)) % 256] ++ t) (by omega) (by omega) (by omega) (by rw [ByteArray.size_append]; omega)
      refine ⟨r, Ev.step (fun k => laws_markText.l0.eq_2 ..) (ev_pos a (ev_bind0 rfl (ev_pos (by omega) ?_)))⟩
      rw [e, w64 (n := n / 10) (by omega) (by omega)]
      exact hr
    · exact ⟨_, Ev.step (fun k => laws_markText.l0.eq_2 ..) (ev_neg a (ev_pos (by omega) (Ev.now _)))⟩
theorem markText_some (n : Int) (h : n ≤ 1000000) : ∃ r, Ev (fun k => laws_markText.f k n) r := by
  by_cases a : n ≤ 0
  · exact ⟨_, ev_pos a (Ev.now _)⟩
  · obtain ⟨r, hr⟩ := markText_l0 n.toNat n ⟨#[]⟩ (by omega) (by omega) (by omega) (by have : (⟨#[]⟩ : ByteArray).size = 0 := rfl; omega)
    exact ⟨r, ev_neg a hr⟩
theorem eqStringS_l0 (l : List ByteArray) (hl : l.length ≤ 4611686018427387904) : ∀ (R : List ByteArray) (i : Nat), l.drop i = R → Ev (fun k => laws_eqStringS.l0 k l l i) true := by
  intro R
  induction R with
  | nil =>
    intro i h
    have := drop_nil h
    exact Ev.step (fun k => laws_eqStringS.l0.eq_2 ..) (ev_neg (by omega) (Ev.now _))
  | cons c R ih =>
    intro i h
    obtain ⟨h1, h2, h3⟩ := rdOf_drop (d := ByteArray.empty) h
    refine Ev.step (fun k => laws_eqStringS.l0.eq_2 ..) (ev_pos (by omega) (ev_pos (by omega) (ev_pos (by omega) (ev_pos rfl ?_))))
    rw [w64 (n := (i : Int) + 1) (by omega) (by omega)]
    exact ih (i + 1) h3
theorem eqStringS_ev (l : List ByteArray) (hl : l.length ≤ 4611686018427387904) : Ev (fun k => laws_eqStringS.f k l l) true := by
  have h := eqStringS_l0 l hl l 0 rfl
  exact ev_pos rfl h
/-- these texts are the marks from `m` on -/
def AreMarks : Int → List ByteArray → Prop
  | _, [] => True
  | m, t :: ts => Ev (fun k => laws_markText.f k m) t ∧ AreMarks (m + 1) ts
theorem markStringS_l0 : ∀ (R P : List ByteArray) (m : Int), 0 ≤ m → m + R.length ≤ 1000000 → P.length + R.length ≤ 4611686018427387904 →
    ∃ M, Ev (fun k => laws_markStringS.l0 k (P ++ R) m P.length) (m + R.length, P ++ M) ∧ M.length = R.length ∧ AreMarks m M := by
  intro R
  induction R with
  | nil =>
    intro P m h0 h1 h2
    refine ⟨[], Ev.step (fun k => laws_markStringS.l0.eq_2 ..) (ev_neg (by simp) (ev_ret ?_)), rfl, trivial⟩
    simp
  | cons c R ih =>
    intro P m h0 h1 h2
    simp only [List.length_cons] at h1 h2
    obtain ⟨t, ht⟩ := markText_some m (by omega)
    obtain ⟨M, hM, h3, h4⟩ := ih (P ++ [t]) (m + 1) (by omega) (by omega) (by simp; omega)
    refine ⟨t :: M, Ev.step (fun k => laws_markStringS.l0.eq_2 ..) (ev_pos (by simp; omega) (ht.bind (ev_pos (by omega) ?_))), by simp [h3], ht, h4⟩
    rw [w64 (n := m + 1) (by omega) (by omega), w64 (n := (P.length : Int) + 1) (by omega) (by omega), Int.toNat_natCast, set_mid]
    simp only [List.length_append, List.length_singleton, List.append_assoc, List.singleton_append] at hM
    rw [show m + ((c :: R).length : Int) = m + 1 + (R.length : Int) by simp; omega]
    exact hM
theorem markStringS_ev (l : List ByteArray) {m : Int} (h0 : 0 ≤ m) (h1 : m + l.length ≤ 1000000) : ∃ M, Ev (fun k => laws_markStringS.f k l m) (m + l.length, M) ∧ M.length = l.length ∧ AreMarks m M := by
  obtain ⟨M, h, h2⟩ := markStringS_l0 l [] m h0 h1 (by simp; omega)
  have h' : Ev (fun k => laws_markStringS.l0 k l m 0) (m + l.length, M) := by simpa using h
  exact ⟨M, h', h2⟩
theorem heldStringS_l0 : ∀ (M P : List ByteArray) (m : Int), 0 ≤ m → m + M.length ≤ 1000000 → P.length + M.length ≤ 4611686018427387904 → AreMarks m M →
    Ev (fun k => laws_heldStringS.l0 k (P ++ M) m P.length) (m + M.length) := by
  intro M
  induction M with
  | nil =>
    intro P m h0 h1 h2 _
    exact Ev.step (fun k => laws_heldStringS.l0.eq_2 ..) (ev_neg (by simp) (ev_ret (by simp)))
  | cons t M ih =>
    intro P m h0 h1 h2 ⟨ht, hM⟩
    simp only [List.length_cons] at h1 h2
    obtain ⟨k1, k2, k3⟩ := rdOf_drop (d := ByteArray.empty) (L := P ++ t :: M) (i := P.length) (drop_mid P _)
    refine Ev.step (fun k => laws_heldStringS.l0.eq_2 ..) (ev_pos (by omega) (ev_pos (by omega) (ht.bind (ev_pos (by rw [k2]) ?_))))
    have := ih (P ++ [t]) (m + 1) (by omega) (by omega) (by simp; omega) hM
    rw [w64 (n := m + 1) (by omega) (by omega), w64 (n := (P.length : Int) + 1) (by omega) (by omega)]
    simp only [List.length_append, List.length_singleton, List.append_assoc, List.singleton_append] at this
    rw [show m + ((t :: M).length : Int) = m + 1 + (M.length : Int) by simp; omega]
    exact this
theorem heldStringS_ev {M : List ByteArray} {m : Int} (h0 : 0 ≤ m) (h1 : m + M.length ≤ 1000000) (h : AreMarks m M) : Ev (fun k => laws_heldStringS.f k M m) (m + M.length) := by
  have := heldStringS_l0 M [] m h0 h1 (by simp; omega) h
  have h' : Ev (fun k => laws_heldStringS.l0 k M m 0) (m + M.length) := by simpa using this
  exact h'

theorem readW_len (s : ByteArray) : (readW s).1.length ≤ 60 := by
  unfold readW
  split
  · simp
  · split
    · rename_i h; exact h.2
    · simp
theorem main : laws_FnExactReadWords.Pure := by
  intro s _
  apply Ev.rounds
  unfold laws_FnExactReadWords.f
  by_cases a : (s.size : Int) > 1000000
  · exact ev_pos a (ev_ret rfl)
  have e := impl_ReadWords_ev s (by omega)
  have f := spec_ReadWords_ev s (by omega)
  have hl := readW_len s
  revert e f hl
  generalize readW s = q
  intro e f hl
  obtain ⟨x, n⟩ := q
  simp only at hl
  have hq := eqStringS_ev x (by omega)
  obtain ⟨M, hm, hM, hA⟩ := markStringS_ev x (m := 101) (by omega) (by omega)
  have hh := heldStringS_ev (M := M) (m := 101) (by omega) (by omega) hA
  refine ev_neg a (f.bind (e.bind (hq.bind (ev_pos rfl ?_))))
  refine Ev.step (fun k => laws_FnExactReadWords.j0.eq_2 ..) (ev_neg (by simp) (hm.bind (hh.bind (ev_neg (by omega) (ev_pos (by rw [hM]) (e.bind (hq.bind (ev_pos rfl ?_))))))))
  exact Ev.step (fun k => laws_FnExactReadWords.j1.eq_2 ..) (ev_neg (by simp) (hh.bind (ev_neg (by omega) (ev_pos (by rw [hM]) (Ev.now _)))))

end Go.Proofs.Ytgcjjpaljfgiaaa.PureFnExactReadWords
namespace Go.Proofs.Ytgcjjpaljfgiaaa.Pure
theorem FnExactReadWords : PFnExactReadWords.laws_FnExactReadWords.Pure := PureFnExactReadWords.main
end Go.Proofs.Ytgcjjpaljfgiaaa.Pure
