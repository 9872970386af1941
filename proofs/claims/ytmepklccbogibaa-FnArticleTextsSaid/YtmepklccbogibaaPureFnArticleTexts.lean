/- An article is recovered from its text, and a text that reads as an article is the text of that article; no condition. -/
import Derived.Test.YtmepklccbogibaaMa
import Derived.Test.YtmepklccbogibaaQFnArticleTextsx
namespace Go.Proofs.Ytmepklccbogibaa.PureFnArticleTexts
open Go.RowKit Go.Proofs.Ytmepklccbogibaa.QFnArticleTexts Go.Proofs.YtmepklccbogibaaW.PrintWords Go.Proofs.YtmepklccbogibaaW.PrintLast Go.Proofs.Ytmepklccbogibaa.Ma
set_option linter.unusedVariables false
set_option linter.unusedSimpArgs false

/-! ### numbers that follow from a code -/
def Code (c : List Int) : Prop := (∀ x ∈ c, 0 ≤ x ∧ x ≤ 255) ∧ c.length ≤ 5000
def Src (c : List Int) (a s : Int) : Prop := Code c ∧ (0 ≤ a ∧ a ≤ c.length) ∧ 0 ≤ s ∧ s < 2147483647
theorem rd_code {c : List Int} (h : Code c) {i : Int} (h0 : 0 ≤ i) (h1 : i < c.length) : 0 ≤ rd c i ∧ rd c i ≤ 255 := by
  unfold rd
  have hi : i.toNat < c.length := by omega
  rw [List.getD_eq_getElem?_getD, List.getElem?_eq_getElem hi]
  exact h.1 _ (List.getElem_mem hi)
theorem tmod_nn {a b : Int} (ha : 0 ≤ a) : Int.tmod a b = a % b := Int.tmod_eq_emod_of_nonneg ha
theorem tmod_in {a b : Int} (ha : 0 ≤ a) (hb : 0 < b) : 0 ≤ Int.tmod a b ∧ Int.tmod a b < b := by
  rw [tmod_nn ha]
  exact ⟨Int.emod_nonneg a (by omega), Int.emod_lt_of_pos a hb⟩
theorem l01Next_some {c : List Int} {a s n : Int} (h : Src c a s) (hn : n ≤ 4611686018427387904) : ∃ x a' s', spec_l01Next.f c a s n = some (x, a', s') ∧ Src c a' s' ∧ 0 ≤ x ∧ (1 ≤ n → x < n) ∧ (n ≤ 1 → x = 0) := by
  obtain ⟨hc, ⟨a0, a1⟩, s0, s1⟩ := h
  have hl := hc.2
  unfold spec_l01Next.f
  by_cases g : n ≤ 1
  · rw [if_pos g]
    exact ⟨0, a, s, rfl, ⟨hc, ⟨a0, a1⟩, s0, s1⟩, by omega, by omega, by omega⟩
  · rw [if_neg g]
    have e1 : wrap64 ((wrap64 (s * 48271)) + 29) = s * 48271 + 29 := by
      rw [w64 (n := s * 48271) (by omega) (by omega), w64 (by omega) (by omega)]
    have e2 := tmod_in (a := s * 48271 + 29) (b := 2147483647) (by omega) (by omega)
    rw [e1]
    generalize Int.tmod (s * 48271 + 29) 2147483647 = s' at *
    have e3 : wrap64 (Int.tdiv s' 31) = s' / 31 := by rw [Int.tdiv_eq_ediv_of_nonneg (by omega), w64 (by omega) (by omega)]
    rw [e3]
    by_cases g1 : a < (c.length : Int)
    · have hr := rd_code hc a0 g1
      rw [if_pos g1, if_pos a0, w64 (n := a + 1) (by omega) (by omega), w64 (n := a + 1 - 1) (by omega) (by omega), show a + 1 - 1 = a by omega, w64 (n := rd c a) (by omega) (by omega), w64 (n := s' / 31 + rd c a) (by omega) (by omega)]
      have t1 := tmod_in (a := rd c a) (b := n) (by omega) (by omega)
      have t2 := tmod_in (a := s' / 31 + rd c a) (b := n) (by omega) (by omega)
      have fin : Src c (a + 1) s' := ⟨hc, ⟨by omega, by omega⟩, e2⟩
      by_cases g2 : n ≤ 256
      · rw [if_pos g2]
        by_cases g3 : Int.tmod (a + 1) 2 = 0
        · rw [if_pos g3, if_pos a0, if_pos g1, if_neg (by omega)]
          exact ⟨_, _, _, rfl, fin, t1.1, fun _ => t1.2, by omega⟩
        · rw [if_neg g3, if_neg (by omega)]
          exact ⟨_, _, _, rfl, fin, t2.1, fun _ => t2.2, by omega⟩
      · rw [if_neg g2, if_neg (by omega)]
        exact ⟨_, _, _, rfl, fin, t2.1, fun _ => t2.2, by omega⟩
    · have t2 := tmod_in (a := s' / 31) (b := n) (by omega) (by omega)
      rw [if_neg g1, if_neg (by omega)]
      exact ⟨_, _, _, rfl, ⟨hc, ⟨a0, a1⟩, e2⟩, t2.1, fun _ => t2.2, by omega⟩
theorem l01Pick_some {c : List Int} {a s : Int} (h : Src c a s) {l : List Int} (hl : 1 ≤ l.length) (hl' : l.length ≤ 1000) : ∃ x a' s', spec_l01Pick.f c a s l = some (x, a', s') ∧ Src c a' s' ∧ x ∈ l := by
  obtain ⟨x, a', s', e, h', x0, x1, _⟩ := l01Next_some h (n := (l.length : Int)) (by omega)
  have x2 := x1 (by omega)
  unfold spec_l01Pick.f
  rw [e, Option.bind_some, if_pos x0, if_pos x2]
  refine ⟨_, _, _, rfl, h', ?_⟩
  unfold rd
  have hi : x.toNat < l.length := by omega
  rw [List.getD_eq_getElem?_getD, List.getElem?_eq_getElem hi]
  exact List.getElem_mem hi
theorem l01From_l0 {c : List Int} (hc : Code c) : ∀ (d : Nat) (i : Int) (s : Int), 64 - i = d → 0 ≤ i → 0 ≤ s → s < 2147483647 → ∃ s', Ev (fun k => spec_l01From.l0 k c i c 0 s) (c, 0, s') ∧ Src c 0 s' := by
  intro d
  have hl := hc.2
  induction d with
  | zero =>
    intro i s hd h0 s0 s1
    refine ⟨s, Ev.step (fun k => spec_l01From.l0.eq_2 ..) ?_, hc, ⟨by omega, by omega⟩, s0, s1⟩
    by_cases g : i < (c.length : Int)
    · exact ev_pos g (ev_neg (by omega) (Ev.now _))
    · exact ev_neg g (Ev.now _)
  | succ d ih =>
    intro i s hd h0 s0 s1
    by_cases g : i < (c.length : Int)
    · have hr := rd_code hc h0 g
      have e1 : wrap64 ((wrap64 (s * 83)) + (wrap64 (rd c i))) = s * 83 + rd c i := by
        rw [w64 (n := s * 83) (by omega) (by omega), w64 (n := rd c i) (by omega) (by omega), w64 (by omega) (by omega)]
      have e2 := tmod_in (a := s * 83 + rd c i) (b := 2147483647) (by omega) (by omega)
      obtain ⟨s', hs, h⟩ := ih (i + 1) (Int.tmod (s * 83 + rd c i) 2147483647) (by omega) (by omega) e2.1 e2.2
      refine ⟨s', Ev.step (fun k => spec_l01From.l0.eq_2 ..) (ev_pos g (ev_pos (by omega) (ev_pos h0 ?_))), h⟩
      rw [e1, w64 (by omega) (by omega)]
      exact hs
    · exact ⟨s, Ev.step (fun k => spec_l01From.l0.eq_2 ..) (ev_neg g (Ev.now _)), hc, ⟨by omega, by omega⟩, s0, s1⟩
theorem l01From_ev {c : List Int} (hc : Code c) : ∃ s, Ev (fun k => spec_l01From.f k c) (c, 0, s) ∧ Src c 0 s :=
  l01From_l0 hc 64 0 61043 (by omega) (by omega) (by omega) (by omega)
/-! ### dice -/
def Dice (c : List Int) (i h : Int) : Prop := Code c ∧ (0 ≤ i ∧ i ≤ c.length) ∧ 0 ≤ h ∧ h ≤ 18446744073709551615
theorem u64w (n : Int) : 0 ≤ IntKind.u64.wrap n ∧ IntKind.u64.wrap n ≤ 18446744073709551615 := by
  have e : IntKind.u64.wrap n = n % 18446744073709551616 := by rfl
  omega
theorem big_false {c : List Int} (h : ¬ (c.length : Int) > 4096) : laws_big.f c = some false := by unfold laws_big.f; simp; omega
theorem big_true {c : List Int} (h : (c.length : Int) > 4096) : laws_big.f c = some true := by unfold laws_big.f; simp; omega
theorem code_of {c : List Int} (h : ∀ x ∈ c, (Lit.int .u8 x).wf = true) (hl : ¬ (c.length : Int) > 4096) : Code c := ⟨fun x hx => bd8 (h x hx), by omega⟩

theorem pick12 {d : ByteArray} {l : List ByteArray} {x : Int} (h0 : 0 ≤ x) (h1 : x < l.length) : rdOf d l x ∈ l := by
  have hx : x.toNat < l.length := by omega
  unfold rdOf
  rw [List.getD_eq_getElem?_getD, List.getElem?_eq_getElem hx]
  exact List.getElem_mem hx
theorem l01Good_some {c : List Int} {a s : Int} (h : Src c a s) : ∃ x a' s', spec_l01Good.f c a s = some (x, a', s') ∧ Src c a' s' ∧ x.size ≤ 17 := by
  obtain ⟨x0, a0, s0, e0, h0, b0, c0, _⟩ := l01Next_some h (n := 12) (by omega)
  have c0 := c0 (by omega)
  unfold spec_l01Good.f
  rw [Option.bind_some, e0, Option.bind_some, if_pos b0, if_pos (by simpa using c0)]
  refine ⟨_, _, _, rfl, h0, ?_⟩
  have := pick12 (d := ByteArray.empty) (l := [(⟨#[97, 100, 97]⟩ : ByteArray), (⟨#[98, 114, 117, 110, 111]⟩ : ByteArray), (⟨#[99, 108, 97, 114, 97]⟩ : ByteArray), (⟨#[100, 111, 114, 97]⟩ : ByteArray), (⟨#[101, 109, 105, 108]⟩ : ByteArray), (⟨#[102, 114, 105, 100, 97]⟩ : ByteArray), (⟨#[103, 117, 115, 116, 97, 118]⟩ : ByteArray), (⟨#[104, 97, 110, 110, 97]⟩ : ByteArray), (⟨#[105, 118, 97, 110]⟩ : ByteArray), (⟨#[106, 97, 110, 97]⟩ : ByteArray), (⟨#[107, 97, 114, 108]⟩ : ByteArray), (⟨#[108, 101, 110, 97]⟩ : ByteArray)]) b0 (by simpa using c0)
  revert this
  generalize rdOf _ _ _ = w
  intro hw
  simp only [List.mem_cons, List.not_mem_nil, or_false] at hw
  rcases hw with rfl | rfl | rfl | rfl | rfl | rfl | rfl | rfl | rfl | rfl | rfl | rfl <;> decide
theorem l01DrawWord_some {c : List Int} {a s : Int} (h : Src c a s) : ∃ x a' s', spec_l01DrawWord.f c a s = some (x, a', s') ∧ Src c a' s' ∧ x.size ≤ 17 := by
  obtain ⟨x0, a0, s0, e0, h0, _⟩ := l01Next_some h (n := 24) (by omega)
  unfold spec_l01DrawWord.f
  rw [e0, Option.bind_some]
  by_cases g : x0 = 0
  · obtain ⟨x1, a1, s1, e1, h1, b1, c1, _⟩ := l01Next_some h0 (n := 6) (by omega)
    have c1 := c1 (by omega)
    rw [if_pos g, Option.bind_some, e1, Option.bind_some, if_pos b1, if_pos (by simpa using c1)]
    refine ⟨_, _, _, rfl, h1, ?_⟩
    have := pick12 (d := ByteArray.empty) (l := [(⟨#[]⟩ : ByteArray), (⟨#[65, 100, 97]⟩ : ByteArray), (⟨#[97, 49]⟩ : ByteArray), (⟨#[97, 98, 99, 100, 101, 102, 103, 104, 105, 106, 107, 108, 109, 110, 111, 112]⟩ : ByteArray), (⟨#[97, 98, 99, 100, 101, 102, 103, 104, 105, 106, 107, 108, 109, 110, 111, 112, 113]⟩ : ByteArray), (⟨#[97, 32, 98]⟩ : ByteArray)]) b1 (by simpa using c1)
    revert this
    generalize rdOf _ _ _ = w
    intro hw
    simp only [List.mem_cons, List.not_mem_nil, or_false] at hw
    rcases hw with rfl | rfl | rfl | rfl | rfl | rfl <;> decide
  · obtain ⟨x1, a1, s1, e1, h1, hx⟩ := l01Good_some h0
    rw [if_neg g, e1]
    exact ⟨_, _, _, rfl, h1, hx⟩
/-! ### division, ranges -/
theorem in_eq (a b c : Int) : spec_l01In.f a b c = some (decide (b ≤ a ∧ a ≤ c)) := by
  unfold spec_l01In.f
  by_cases h : b ≤ a <;> simp [h]
theorem within_eq (a b c : Int) : impl_within.f a b c = some (decide (b ≤ a ∧ a ≤ c)) := by
  unfold impl_within.f
  by_cases h : b ≤ a <;> simp [h]
theorem tdiv_floor {a b : Int} (hb : 0 < b) : (Int.tmod a b < 0 → Int.tdiv a b - 1 = a / b) ∧ (¬ Int.tmod a b < 0 → Int.tdiv a b = a / b) := by
  have h1 := Int.tdiv_eq_ediv (a := a) (b := b)
  have h2 := Int.tmod_eq_emod (a := a) (b := b)
  have h3 := Int.emod_nonneg a (show b ≠ 0 by omega)
  have h4 := Int.emod_lt_of_pos a hb
  by_cases h : 0 ≤ a ∨ b ∣ a
  · rw [if_pos h] at h1 h2
    omega
  · rw [if_neg h] at h1 h2
    rw [Int.sign_eq_one_of_pos hb] at h1
    omega
theorem ediv_small {a b : Int} (hb : 0 < b) (h : -4611686018427387904 ≤ a) (h' : a ≤ 4611686018427387904) : -4611686018427387904 ≤ a / b ∧ a / b ≤ 4611686018427387904 := by
  have h1 : -4611686018427387904 * b ≤ a := by
    have := Int.mul_le_mul_of_nonneg_left (show 1 ≤ b by omega) (show (0 : Int) ≤ 4611686018427387904 by omega); omega
  have h2 : a < (4611686018427387904 + 1) * b := by
    have := Int.mul_le_mul_of_nonneg_left (show 1 ≤ b by omega) (show (0 : Int) ≤ 4611686018427387905 by omega); omega
  have h3 := (Int.le_ediv_iff_mul_le hb).2 h1
  have h4 := (Int.ediv_lt_iff_lt_mul hb).2 h2
  omega
/-! ### IsWord -/
def az (c : Int) : Bool := decide (97 ≤ c) && decide (c ≤ 122)
def wordL (l : List Int) : Bool := decide (1 ≤ l.length) && decide (l.length ≤ 16) && l.all az
theorem az_lo {c : Int} (h : c < 97) : az c = false := by unfold az; simp; omega
theorem az_hi {c : Int} (h : c > 122) : az c = false := by unfold az; simp; omega
theorem az_in {c : Int} (h : ¬ c < 97) (h' : ¬ c > 122) : az c = true := by unfold az; simp; omega
theorem spec_l01In_eq (a b c : Int) : spec_l01In.f a b c = some (decide (b ≤ a) && decide (a ≤ c)) := by
  unfold spec_l01In.f
  by_cases h : b ≤ a <;> simp [h]
theorem spec_IsWord_l0 (s : ByteArray) (hs : s.size ≤ 4611686018427387904) : ∀ (R : List Int) (i : Nat), (bytesOf s).drop i = R → i ≤ s.size → Ev (fun k => spec_IsWord.l0 k s i) (R.all az && (decide (1 ≤ (s.size : Int)) && decide ((s.size : Int) ≤ 16))) := by
  intro R
  induction R with
  | nil =>
    intro i h hi
    have := bo_drop_nil h
    refine Ev.step (fun k => spec_IsWord.l0.eq_2 ..) ?_
    refine ev_neg (by omega) (ev_bind0 (spec_l01In_eq ..) (ev_ret ?_))
    simp
  | cons c R ih =>
    intro i h hi
    obtain ⟨h1, h2, h3⟩ := bt_drop h
    refine Ev.step (fun k => spec_IsWord.l0.eq_2 ..) ?_
    refine ev_pos (by omega) (ev_pos (by omega) ?_)
    rw [h2, w64 (by omega) (by omega)]
    by_cases a : c < 97
    · exact ev_pos a (ev_ret (by simp [az_lo a]))
    · refine ev_neg a ?_
      by_cases b : c > 122
      · exact ev_pos b (ev_ret (by simp [az_hi b]))
      · refine ev_neg b ?_
        have := ih (i + 1) h3 (by omega)
        rw [List.all_cons, az_in a b, Bool.true_and]
        exact this
theorem spec_IsWord_ev (s : ByteArray) (hs : s.size ≤ 4611686018427387904) : Ev (fun k => spec_IsWord.f k s) (wordL (bytesOf s)) := by
  have h := spec_IsWord_l0 s hs (bytesOf s) 0 rfl (by omega)
  unfold spec_IsWord.f
  have e : wordL (bytesOf s) = ((bytesOf s).all az && (decide (1 ≤ (s.size : Int)) && decide ((s.size : Int) ≤ 16))) := by
    unfold wordL; rw [bytesOf_length, Bool.and_comm]
    congr 2 <;> exact decide_eq_decide.2 (by omega)
  rw [e]; exact h

theorem impl_IsWord_l0 (s : ByteArray) (hs : s.size ≤ 4611686018427387904) : ∀ (R : List Int) (i : Nat), (bytesOf s).drop i = R → i ≤ s.size → Ev (fun k => impl_IsWord.l0 k s i) (R.all az) := by
  intro R
  induction R with
  | nil =>
    intro i h hi
    have := bo_drop_nil h
    refine Ev.step (fun k => impl_IsWord.l0.eq_2 ..) ?_
    exact ev_neg (by omega) (ev_ret rfl)
  | cons c R ih =>
    intro i h hi
    obtain ⟨h1, h2, h3⟩ := bt_drop h
    refine Ev.step (fun k => impl_IsWord.l0.eq_2 ..) ?_
    refine ev_pos (by omega) (ev_pos (by omega) ?_)
    rw [h2, w64 (by omega) (by omega)]
    by_cases a : c < 97
    · exact ev_pos a (ev_ret (by simp [az_lo a]))
    · refine ev_neg a ?_
      by_cases b : c > 122
      · exact ev_pos b (ev_ret (by simp [az_hi b]))
      · refine ev_neg b ?_
        have := ih (i + 1) h3 (by omega)
        rw [List.all_cons, az_in a b, Bool.true_and]
        exact this
theorem impl_IsWord_ev (s : ByteArray) (hs : s.size ≤ 4611686018427387904) : Ev (fun k => impl_IsWord.f k s) (wordL (bytesOf s)) := by
  have h := impl_IsWord_l0 s hs (bytesOf s) 0 rfl (by omega)
  have hb := bytesOf_length s
  unfold impl_IsWord.f wordL
  by_cases a : (s.size : Int) < 1
  · refine ev_pos a (Ev.step (fun k => impl_IsWord.j0.eq_2 ..) (ev_pos rfl (ev_ret ?_)))
    simp; omega
  · refine ev_neg a (Ev.step (fun k => impl_IsWord.j0.eq_2 ..) ?_)
    by_cases b : (s.size : Int) > 16
    · refine ev_pos (by simpa using b) (ev_ret ?_)
      simp; omega
    · refine ev_neg (by simpa using b) ?_
      have e : (decide (1 ≤ (bytesOf s).length) && decide ((bytesOf s).length ≤ 16) && (bytesOf s).all az) = (bytesOf s).all az := by
        simp; intro _; omega
      rw [e]; exact h

/-! ### articles -/
theorem maxLen_eq : maxLen ≤ 9223372036854775807 := by unfold maxLen; decide
def ArtB (c : ByteArray) (kind cal lift spread shots gap net group : Int) : Bool :=
  wordL (bytesOf c) && decide (0 ≤ kind ∧ kind ≤ 3) && decide (20 ≤ cal ∧ cal ≤ 300) && decide (0 ≤ lift ∧ lift ≤ 10000) && decide (0 ≤ spread ∧ spread ≤ lift) &&
    decide (1 ≤ shots ∧ shots ≤ 50) && decide (0 ≤ gap ∧ gap ≤ 10000) && decide (1 ≤ net ∧ net ≤ 100000) && decide (0 ≤ group ∧ group ≤ 3)
theorem artB_true {c : ByteArray} {kind cal lift spread shots gap net group : Int} (h : ArtB c kind cal lift spread shots gap net group = true) :
    wordL (bytesOf c) = true ∧ (0 ≤ kind ∧ kind ≤ 3) ∧ (20 ≤ cal ∧ cal ≤ 300) ∧ (0 ≤ lift ∧ lift ≤ 10000) ∧ (0 ≤ spread ∧ spread ≤ lift) ∧ (1 ≤ shots ∧ shots ≤ 50) ∧ (0 ≤ gap ∧ gap ≤ 10000) ∧ (1 ≤ net ∧ net ≤ 100000) ∧ (0 ≤ group ∧ group ≤ 3) := by
  unfold ArtB at h
  simp only [Bool.and_eq_true, decide_eq_true_eq] at h
  obtain ⟨⟨⟨⟨⟨⟨⟨⟨h1, h2⟩, h3⟩, h4⟩, h5⟩, h6⟩, h7⟩, h8⟩, h9⟩ := h
  exact ⟨h1, h2, h3, h4, h5, h6, h7, h8, h9⟩
theorem impl_IsArticle_ev (c : ByteArray) (kind cal lift spread shots gap net group : Int) (hs : c.size ≤ 4611686018427387904) :
    Ev (fun k => impl_IsArticle.f k c kind cal lift spread shots gap net group) (ArtB c kind cal lift spread shots gap net group) := by
  unfold impl_IsArticle.f ArtB
  refine (impl_IsWord_ev c hs).bind ?_
  simp only [within_eq, Option.bind_some]
  by_cases h1 : wordL (bytesOf c) = true
  · refine ev_pos h1 ?_
    simp only [h1, Bool.true_and]
    refine ev_const ?_
    simp only [decide_eq_true_eq]
    repeat' split
    all_goals first | (simp_all; done) | (simp_all; intros; omega)
  · exact ev_neg h1 (ev_ret (by simp [h1]))
theorem spec_IsArticle_ev (c : ByteArray) (kind cal lift spread shots gap net group : Int) (hs : c.size ≤ 4611686018427387904) :
    Ev (fun k => spec_IsArticle.f k c kind cal lift spread shots gap net group) (ArtB c kind cal lift spread shots gap net group) := by
  unfold spec_IsArticle.f ArtB
  refine (spec_IsWord_ev c hs).bind ?_
  simp only [in_eq, Option.bind_some]
  by_cases h1 : wordL (bytesOf c) = true
  · refine ev_pos h1 ?_
    simp only [h1, Bool.true_and]
    refine ev_const ?_
    simp only [decide_eq_true_eq]
    repeat' split
    all_goals first | (simp_all; done) | (simp_all; intros; omega)
  · exact ev_neg h1 (ev_ret (by simp [h1]))
def lenM (c : ByteArray) (kind cal lift spread shots gap net group : Int) : Int × Int :=
  if ArtB c kind cal lift spread shots gap net group = true then (lift + spread + (shots - 1) * gap, 0) else (0, 1)
theorem gap_bound {shots gap : Int} (h : 1 ≤ shots ∧ shots ≤ 50) (k : 0 ≤ gap ∧ gap ≤ 10000) : 0 ≤ (shots - 1) * gap ∧ (shots - 1) * gap ≤ 490000 := by
  constructor
  · exact Int.mul_nonneg (by omega) k.1
  · have h1 := Int.mul_le_mul_of_nonneg_right (show shots - 1 ≤ 49 by omega) k.1
    omega
/-! ### drawn articles -/
theorem l03Good_some {c : List Int} {a s : Int} (h : Src c a s) (nm : ByteArray) : ∃ x1 x2 x3 x4 x5 x6 x7 x8 a' s', spec_l03Good.f c a s nm = some (nm, x1, x2, x3, x4, x5, x6, x7, x8, a', s') ∧ Src c a' s' := by
  obtain ⟨y1, a1, s1, e1, h1, _⟩ := l01Next_some h (n := 4) (by omega)
  obtain ⟨y2, a2, s2, e2, h2, _⟩ := l01Next_some h1 (n := 281) (by omega)
  obtain ⟨y3, a3, s3, e3, h3, _⟩ := l01Pick_some h2 (l := [50, 75, 100, 150, wrap64 (20 + y2)]) (by simp) (by simp)
  obtain ⟨y4, a4, s4, e4, h4, _⟩ := l01Next_some h3 (n := 5000) (by omega)
  obtain ⟨y5, a5, s5, e5, h5, _⟩ := l01Next_some h4 (n := 300) (by omega)
  obtain ⟨y6, a6, s6, e6, h6, _⟩ := l01Next_some h5 (n := 2000) (by omega)
  obtain ⟨y7, a7, s7, e7, h7, _⟩ := l01Next_some h6 (n := 4) (by omega)
  unfold spec_l03Good.f
  by_cases g1 : y1 = 1
  · obtain ⟨y8, a8, s8, e8, h8, _⟩ := l01Next_some h7 (n := 8) (by omega)
    obtain ⟨y9, a9, s9, e9, h9, _⟩ := l01Next_some h8 (n := 2000) (by omega)
    have g2 : ¬ y1 = 2 := by omega
    simp only [e1, e2, e3, e4, e5, e6, e7, e8, e9, Option.bind_some, if_pos g1, if_neg g2]
    exact ⟨_, _, _, _, _, _, _, _, a9, s9, rfl, h9⟩
  · by_cases g2 : y1 = 2
    · simp only [e1, e2, e3, e4, e5, e6, e7, Option.bind_some, if_neg g1, if_pos g2]
      exact ⟨_, _, _, _, _, _, _, _, a7, s7, rfl, h7⟩
    · simp only [e1, e2, e3, e4, e5, e6, e7, Option.bind_some, if_neg g1, if_neg g2]
      exact ⟨_, _, _, _, _, _, _, _, a7, s7, rfl, h7⟩
theorem l03Draw_some {c : List Int} {a s : Int} (h : Src c a s) (nm : ByteArray) (hn : nm.size ≤ 17) : ∃ m x1 x2 x3 x4 x5 x6 x7 x8 a' s', spec_l03Draw.f c a s nm = some (m, x1, x2, x3, x4, x5, x6, x7, x8, a', s') ∧ Src c a' s' ∧ m.size ≤ 17 := by
  obtain ⟨x1, x2, x3, x4, x5, x6, x7, x8, a0, s0, e0, h0⟩ := l03Good_some h nm
  obtain ⟨y, a1, s1, e1, h1, _⟩ := l01Next_some h0 (n := 60) (by omega)
  unfold spec_l03Draw.f
  by_cases g0 : y = 0
  · obtain ⟨z, a2, s2, e2, h2, _⟩ := l01Pick_some h1 (l := [19, 20, 300, 301]) (by simp) (by simp)
    simp only [e0, e1, e2, Option.bind_some, if_pos g0]
    exact ⟨_, _, _, _, _, _, _, _, _, a2, s2, rfl, h2, hn⟩
  by_cases g1 : y = 1
  · obtain ⟨z, a2, s2, e2, h2, _⟩ := l01Pick_some h1 (l := [x3, wrap64 (x3 + 1), (-1)]) (by simp) (by simp)
    simp only [e0, e1, e2, Option.bind_some, if_neg g0, if_pos g1]
    exact ⟨_, _, _, _, _, _, _, _, _, a2, s2, rfl, h2, hn⟩
  by_cases g2 : y = 2
  · obtain ⟨z, a2, s2, e2, h2, _⟩ := l01Pick_some h1 (l := [0, 50, 51]) (by simp) (by simp)
    simp only [e0, e1, e2, Option.bind_some, if_neg g0, if_neg g1, if_pos g2]
    exact ⟨_, _, _, _, _, _, _, _, _, a2, s2, rfl, h2, hn⟩
  by_cases g3 : y = 3
  · obtain ⟨z, a2, s2, e2, h2, hz⟩ := l01DrawWord_some h1
    simp only [e0, e1, e2, Option.bind_some, if_neg g0, if_neg g1, if_neg g2, if_pos g3]
    exact ⟨_, _, _, _, _, _, _, _, _, a2, s2, rfl, h2, hz⟩
  by_cases g4 : y = 4
  · obtain ⟨z, a2, s2, e2, h2, _⟩ := l01Pick_some h1 (l := [0, 100000, 100001]) (by simp) (by simp)
    simp only [e0, e1, e2, Option.bind_some, if_neg g0, if_neg g1, if_neg g2, if_neg g3, if_pos g4]
    exact ⟨_, _, _, _, _, _, _, _, _, a2, s2, rfl, h2, hn⟩
  · simp only [e0, e1, Option.bind_some, if_neg g0, if_neg g1, if_neg g2, if_neg g3, if_neg g4]
    exact ⟨_, _, _, _, _, _, _, _, _, a1, s1, rfl, h1, hn⟩
/-! ### splitting -/
def splB (b : Int) (s : ByteArray) : List ByteArray := (spl b [] (bytesOf s)).map strOfNums
theorem cur_ext (s : ByteArray) (f i : Nat) : strOfNums (((bytesOf s).take i).drop f) = s.extract f i := by
  rw [← bo_ext, of_bo]
theorem spl_len (b : Int) : ∀ (l cur : List Int), (spl b cur l).length ≤ l.length + 1
  | [], cur => by simp [spl]
  | c :: l, cur => by
    unfold spl
    split
    · have := spl_len b l []
      simp only [List.length_cons]; omega
    · have := spl_len b l (cur ++ [c])
      simp only [List.length_cons]; omega
theorem impl_splitAt_l0 (s : ByteArray) (b : Int) (hs : s.size ≤ 1000000) : ∀ (R : List Int) (i f : Nat) (out : List ByteArray), (bytesOf s).drop i = R → i ≤ s.size → f ≤ i → out.length ≤ i →
    Ev (fun k => impl_splitAt.l0 k s b out f i) (out ++ (spl b (((bytesOf s).take i).drop f) R).map strOfNums) := by
  intro R
  induction R with
  | nil =>
    intro i f out h hi hf ho
    have h1 := bo_drop_nil h
    refine Ev.step (fun k => impl_splitAt.l0.eq_2 ..) (ev_neg (by omega) (ev_pos (by omega) (ev_pos (by omega) (ev_pos (by omega) (ev_ret ?_)))))
    rw [spl.eq_1, List.map_singleton, cur_ext, Int.toNat_natCast, show i = s.size by omega]
  | cons c R ih =>
    intro i f out h hi hf ho
    obtain ⟨h1, h2, h3⟩ := bt_drop h
    refine Ev.step (fun k => impl_splitAt.l0.eq_2 ..) (ev_pos (by omega) (ev_pos (by omega) ?_))
    rw [h2, w64 (n := (i : Int) + 1) (by omega) (by omega), spl.eq_2]
    by_cases a : c = b
    · refine ev_pos a (ev_pos (by omega) (ev_pos (by omega) (ev_pos (by omega) (ev_pos (by omega) ?_))))
      rw [if_pos a, List.map_cons, cur_ext]
      have := ih (i + 1) (i + 1) (out ++ [s.extract f i]) h3 (by omega) (by omega) (by simp; omega)
      rw [List.drop_eq_nil_of_le (by rw [List.length_take]; omega), List.append_assoc] at this
      exact this
    · refine ev_neg a ?_
      rw [if_neg a]
      have := ih (i + 1) f out h3 (by omega) (by omega) (by omega)
      rw [snoc_take h, List.drop_append_of_le_length (by rw [List.length_take, bytesOf_length]; omega)] at this
      exact this
theorem impl_splitAt_ev (s : ByteArray) (b : Int) (hs : s.size ≤ 1000000) : Ev (fun k => impl_splitAt.f k s b) (splB b s) := by
  have := impl_splitAt_l0 s b hs (bytesOf s) 0 0 [] rfl (by omega) (by omega) (by simp)
  have h : Ev (fun k => impl_splitAt.l0 k s b [] 0 0) (splB b s) := by simpa [splB] using this
  exact h
theorem spec_l01Split_end (s : ByteArray) (b : Int) (out : List ByteArray) (hs : s.size ≤ 1000000) : Ev (fun k => spec_l01Split.l0 k s b out ((s.size + 1 : Nat) : Int) ((s.size + 1 : Nat) : Int)) out :=
  Ev.step (fun k => spec_l01Split.l0.eq_2 ..) (ev_neg (by omega) (Ev.now _))
theorem spec_l01Split_l0 (s : ByteArray) (b : Int) (hs : s.size ≤ 1000000) : ∀ (R : List Int) (i f : Nat) (out : List ByteArray), (bytesOf s).drop i = R → i ≤ s.size → f ≤ i → out.length ≤ i →
    Ev (fun k => spec_l01Split.l0 k s b out f i) (out ++ (spl b (((bytesOf s).take i).drop f) R).map strOfNums) := by
  intro R
  induction R with
  | nil =>
    intro i f out h hi hf ho
    have h1 := bo_drop_nil h
    refine Ev.step (fun k => spec_l01Split.l0.eq_2 ..) (ev_pos (by omega) (ev_pos (by omega) (ev_pos (by omega) (ev_pos (by omega) (ev_pos (by omega) ?_)))))
    rw [spl.eq_1, List.map_singleton, cur_ext, w64 (n := (i : Int) + 1) (by omega) (by omega), show (i : Int) + 1 = ((s.size + 1 : Nat) : Int) by omega, Int.toNat_natCast, Int.toNat_natCast]
    exact spec_l01Split_end s b _ hs
  | cons c R ih =>
    intro i f out h hi hf ho
    obtain ⟨h1, h2, h3⟩ := bt_drop h
    refine Ev.step (fun k => spec_l01Split.l0.eq_2 ..) (ev_pos (by omega) (ev_neg (by omega) (ev_pos (by omega) (ev_pos (by omega) ?_))))
    rw [h2, w64 (n := (i : Int) + 1) (by omega) (by omega), spl.eq_2]
    by_cases a : c = b
    · refine ev_pos a (ev_pos (by omega) (ev_pos (by omega) (ev_pos (by omega) ?_)))
      rw [if_pos a, List.map_cons, cur_ext]
      have := ih (i + 1) (i + 1) (out ++ [s.extract f i]) h3 (by omega) (by omega) (by simp; omega)
      rw [List.drop_eq_nil_of_le (by rw [List.length_take]; omega), List.append_assoc] at this
      exact this
    · refine ev_neg a ?_
      rw [if_neg a]
      have := ih (i + 1) f out h3 (by omega) (by omega) (by omega)
      rw [snoc_take h, List.drop_append_of_le_length (by rw [List.length_take, bytesOf_length]; omega)] at this
      exact this
theorem spec_l01Split_ev (s : ByteArray) (b : Int) (hs : s.size ≤ 1000000) : Ev (fun k => spec_l01Split.f k s b) (splB b s) := by
  have := spec_l01Split_l0 s b hs (bytesOf s) 0 0 [] rfl (by omega) (by omega) (by simp)
  have h : Ev (fun k => spec_l01Split.l0 k s b [] 0 0) (splB b s) := by simpa [splB] using this
  exact h
theorem spl_byte (b : Int) : ∀ (l cur : List Int), (∀ c ∈ cur, byte c) → (∀ c ∈ l, byte c) → ∀ w ∈ spl b cur l, ∀ c ∈ w, byte c
  | [], cur, h, _, w, hw, c, hc => by
    simp only [spl, List.mem_singleton] at hw; subst hw; exact h c hc
  | d :: l, cur, h, k, w, hw, c, hc => by
    unfold spl at hw
    split at hw
    · rcases List.mem_cons.1 hw with rfl | hw
      · exact h c hc
      · exact spl_byte b l [] (by simp) (fun x hx => k x (by simp [hx])) w hw c hc
    · refine spl_byte b l _ ?_ (fun x hx => k x (by simp [hx])) w hw c hc
      intro x hx
      rcases List.mem_append.1 hx with hx | hx
      · exact h x hx
      · simp only [List.mem_singleton] at hx; subst hx; exact k x (by simp)
theorem splB_bo (b : Int) (s : ByteArray) : (splB b s).map bytesOf = spl b [] (bytesOf s) := by
  unfold splB
  rw [List.map_map]
  conv => rhs; rw [← List.map_id (spl b [] (bytesOf s))]
  apply List.map_congr_left
  intro w hw
  exact bo_of w (spl_byte b (bytesOf s) [] (by simp) (bo_byte s) w hw)
theorem splB_len (b : Int) (s : ByteArray) : (splB b s).length ≤ s.size + 1 := by
  unfold splB
  rw [List.length_map]
  have := spl_len b (bytesOf s) []
  rwa [bytesOf_length] at this
theorem spl_word_len (b : Int) : ∀ (l cur : List Int), ∀ w ∈ spl b cur l, w.length ≤ cur.length + l.length
  | [], cur, w, hw => by simp only [spl, List.mem_singleton] at hw; subst hw; simp
  | d :: l, cur, w, hw => by
    unfold spl at hw
    split at hw
    · rcases List.mem_cons.1 hw with rfl | hw
      · simp
      · have := spl_word_len b l [] w hw
        simp at this ⊢; omega
    · have := spl_word_len b l _ w hw
      simp at this ⊢; omega
theorem splB_size (b : Int) (s : ByteArray) : ∀ w ∈ splB b s, w.size ≤ s.size := by
  intro w hw
  have h1 : bytesOf w ∈ spl b [] (bytesOf s) := by rw [← splB_bo]; exact List.mem_map_of_mem hw
  have h2 := spl_word_len b (bytesOf s) [] _ h1
  rw [bytesOf_length, bytesOf_length] at h2
  simpa using h2

/-! ### numbers in decimal -/
def numL (n : Int) : List Int := if n < 0 then 45 :: dec (-n).toNat else dec n.toNat
theorem numL_pos {n : Int} (h : 0 ≤ n) : numL n = dec n.toNat := by unfold numL; rw [if_neg (by omega)]
theorem numL_neg {n : Int} (h : n < 0) : numL n = 45 :: dec (-n).toNat := by unfold numL; rw [if_pos h]
theorem sz_bo {s : ByteArray} {l : List Int} (h : bytesOf s = l) : s.size = l.length := by rw [← h, bytesOf_length]
theorem byte_dig {c : Int} (h : Dig c) : byte c := by unfold Dig at h; unfold byte; omega
theorem bo_one {c : Int} (h : byte c) : bytesOf (strOfNums [c]) = [c] := bo_of _ (fun x hx => by simp only [List.mem_singleton] at hx; subst hx; exact h)
theorem bo_lit (l : List UInt8) : bytesOf ⟨l.toArray⟩ = l.map fun b => (b.toNat : Int) := rfl
theorem pow_int (k : Nat) : ((10 ^ k : Nat) : Int) = (10 : Int) ^ k := by simp
theorem dec_len_le' {n : Int} {k : Nat} (h0 : 0 ≤ n) (h : n < 10 ^ (k + 1)) : (dec n.toNat).length ≤ k + 1 := by
  refine dec_len_le k n.toNat ?_
  have := pow_int (k + 1)
  omega
/-- the byte of the last digit -/
theorem dig_byte {n : Int} (h : 0 ≤ n) : (wrap64 (48 + (Int.tmod n 10))) % 256 = 48 + n % 10 := by
  rw [Int.tmod_eq_emod_of_nonneg h, w64 (by omega) (by omega)]; omega
theorem impl_decimal_l0 : ∀ (d : Nat) (n : Int) (x : ByteArray), 0 ≤ n → n < 10 ^ (d + 1) → n ≤ 9223372036854775807 → x.size + d ≤ 4611686018427387904 → ∃ r, Ev (fun k => impl_decimal.l0 k n x) r ∧ bytesOf r = dec n.toNat ++ bytesOf x := by
  intro d
  induction d with
  | zero =>
    intro n x h0 h1 h2 h3
    have hb : bytesOf (strOfNums [48 + n % 10]) = [48 + n % 10] := bo_one (by unfold byte; omega)
    have hs := sz_bo hb
    refine ⟨strOfNums [48 + n % 10] ++ x, Ev.step (fun k => impl_decimal.l0.eq_2 ..) (ev_bind0 rfl ?_), ?_⟩
    · rw [dig_byte h0, Int.tdiv_eq_ediv_of_nonneg h0, w64 (by omega) (by omega)]
      simp only [List.length_singleton] at hs
      exact ev_pos (by omega) (ev_pos (by omega) (Ev.now _))
    · rw [bo_app, hb, dec_small (by omega)]
      congr 2; omega
  | succ d ih =>
    intro n x h0 h1 h2 h3
    have hb : bytesOf (strOfNums [48 + n % 10]) = [48 + n % 10] := bo_one (by unfold byte; omega)
    have hs := sz_bo hb
    simp only [List.length_singleton] at hs
    by_cases g : n / 10 = 0
    · refine ⟨strOfNums [48 + n % 10] ++ x, Ev.step (fun k => impl_decimal.l0.eq_2 ..) (ev_bind0 rfl ?_), ?_⟩
      · rw [dig_byte h0, Int.tdiv_eq_ediv_of_nonneg h0, w64 (by omega) (by omega)]
        exact ev_pos (by omega) (ev_pos g (Ev.now _))
      · rw [bo_app, hb, dec_small (by omega)]
        congr 2; omega
    · obtain ⟨r, hr, e⟩ := ih (n / 10) (strOfNums [48 + n % 10] ++ x) (by omega) (by rw [Int.pow_succ] at h1; omega) (by omega) (by rw [ByteArray.size_append]; omega)
      refine ⟨r, Ev.step (fun k => impl_decimal.l0.eq_2 ..) (ev_bind0 rfl ?_), ?_⟩
      · rw [dig_byte h0, Int.tdiv_eq_ediv_of_nonneg h0, w64 (by omega) (by omega)]
        exact ev_pos (by omega) (ev_neg g hr)
      · rw [e, bo_app, hb, dec_big (n := n.toNat) (by omega), show n.toNat / 10 = (n / 10).toNat by omega, show ((n.toNat % 10 : Nat) : Int) = n % 10 by omega]
        simp
theorem impl_decimal_nn {n : Int} (h0 : 0 ≤ n) (h1 : n ≤ 1000000000000000000) : ∃ r, Ev (fun k => impl_decimal.f k n) r ∧ bytesOf r = dec n.toNat := by
  obtain ⟨r, hr, e⟩ := impl_decimal_l0 18 n ⟨#[]⟩ h0 (by omega) (by omega) (by decide)
  refine ⟨r, Ev.step (fun k => impl_decimal.f.eq_2 ..) (ev_neg (by omega) hr), ?_⟩
  rw [e, bo_nil]; simp
theorem impl_decimal_ev {n : Int} (h0 : -1000000000000000000 ≤ n) (h1 : n ≤ 1000000000000000000) : ∃ r, Ev (fun k => impl_decimal.f k n) r ∧ bytesOf r = numL n := by
  by_cases g : n < 0
  · obtain ⟨r, hr, e⟩ := impl_decimal_nn (n := -n) (by omega) (by omega)
    have hl := dec_len_le' (n := -n) (k := 18) (by omega) (by omega)
    have hs := sz_bo e
    refine ⟨(⟨#[45]⟩ : ByteArray) ++ r, Ev.step (fun k => impl_decimal.f.eq_2 ..) (ev_pos g ?_), ?_⟩
    · rw [w64 (by omega) (by omega)]
      exact hr.bind (ev_pos (by omega) (Ev.now _))
    · rw [bo_app, e, numL_neg g]; rfl
  · obtain ⟨r, hr, e⟩ := impl_decimal_nn (n := n) (by omega) h1
    exact ⟨r, hr, by rw [e, numL_pos (by omega)]⟩
theorem spec_l01Dec_d : ∀ (d : Nat) (n : Int), 0 ≤ n → n < 10 ^ (d + 1) → n ≤ 9223372036854775807 → d ≤ 1000 → ∃ r, Ev (fun k => spec_l01Dec.f k n) r ∧ bytesOf r = dec n.toNat := by
  intro d
  induction d with
  | zero =>
    intro n h0 h1 h2 _
    have hb : bytesOf (strOfNums [48 + n]) = [48 + n] := bo_one (by unfold byte; omega)
    refine ⟨strOfNums [48 + n], Ev.step (fun k => spec_l01Dec.f.eq_2 ..) (ev_pos (by omega) (ev_ret ?_)), ?_⟩
    · rw [w64 (by omega) (by omega), show (48 + n) % 256 = 48 + n by omega]
    · rw [hb, dec_small (by omega)]
      congr 2; omega
  | succ d ih =>
    intro n h0 h1 h2 hd
    by_cases g : n < 10
    · have hb : bytesOf (strOfNums [48 + n]) = [48 + n] := bo_one (by unfold byte; omega)
      refine ⟨strOfNums [48 + n], Ev.step (fun k => spec_l01Dec.f.eq_2 ..) (ev_pos g (ev_ret ?_)), ?_⟩
      · rw [w64 (by omega) (by omega), show (48 + n) % 256 = 48 + n by omega]
      · rw [hb, dec_small (by omega)]
        congr 2; omega
    · have hb : bytesOf (strOfNums [48 + n % 10]) = [48 + n % 10] := bo_one (by unfold byte; omega)
      have hs := sz_bo hb
      simp only [List.length_singleton] at hs
      obtain ⟨r, hr, e⟩ := ih (n / 10) (by omega) (by rw [Int.pow_succ] at h1; omega) (by omega) (by omega)
      have hl := dec_len_le' (n := n / 10) (k := d) (by omega) (by rw [Int.pow_succ] at h1; omega)
      have hsr := sz_bo e
      refine ⟨r ++ strOfNums [48 + n % 10], Ev.step (fun k => spec_l01Dec.f.eq_2 ..) (ev_neg g ?_), ?_⟩
      · rw [dig_byte h0, Int.tdiv_eq_ediv_of_nonneg h0, w64 (by omega) (by omega)]
        exact hr.bind (ev_bind0 rfl (ev_pos (by omega) (Ev.now _)))
      · rw [bo_app, e, hb, dec_big (n := n.toNat) (by omega), show n.toNat / 10 = (n / 10).toNat by omega, show ((n.toNat % 10 : Nat) : Int) = n % 10 by omega]
theorem spec_l01Dec_ev {n : Int} (h0 : 0 ≤ n) (h1 : n ≤ 1000000000000000000) : ∃ r, Ev (fun k => spec_l01Dec.f k n) r ∧ bytesOf r = dec n.toNat := spec_l01Dec_d 18 n h0 (by omega) (by omega) (by omega)
theorem spec_l01Number_ev {n : Int} (h0 : -1000000000000000000 ≤ n) (h1 : n ≤ 1000000000000000000) : ∃ r, Ev (fun k => spec_l01Number.f k n) r ∧ bytesOf r = numL n := by
  unfold spec_l01Number.f
  by_cases g : n < 0
  · obtain ⟨r, hr, e⟩ := spec_l01Dec_ev (n := -n) (by omega) (by omega)
    have hl := dec_len_le' (n := -n) (k := 18) (by omega) (by omega)
    have hs := sz_bo e
    refine ⟨(⟨#[45]⟩ : ByteArray) ++ r, ev_pos g ?_, ?_⟩
    · rw [w64 (by omega) (by omega)]
      exact hr.bind (ev_pos (by omega) (Ev.now _))
    · rw [bo_app, e, numL_neg g]; rfl
  · obtain ⟨r, hr, e⟩ := spec_l01Dec_ev (n := n) (by omega) h1
    exact ⟨r, ev_neg g (hr.bind (Ev.now _)), by rw [e, numL_pos (by omega)]⟩
theorem numL_len {n : Int} (h0 : -1000000000000000000 ≤ n) (h1 : n ≤ 1000000000000000000) : (numL n).length ≤ 20 := by
  by_cases g : n < 0
  · rw [numL_neg g]
    have hl := dec_len_le' (n := -n) (k := 18) (by omega) (by omega)
    simp; omega
  · rw [numL_pos (by omega)]
    have hl := dec_len_le' (n := n) (k := 18) (by omega) (by omega)
    omega

/-! ### numbers, read -/
theorem val_take_step {v c : Int} (h : Dig c) (h0 : 0 ≤ v) (h1 : v ≤ 100000000000000000) : wrap64 ((wrap64 (10 * v)) + ((c - 48) % 256)) = 10 * v + (c - 48) := by
  unfold Dig at h
  rw [w64 (n := 10 * v) (by omega) (by omega), show (c - 48) % 256 = c - 48 by omega, w64 (by omega) (by omega)]
def foldV (v : Int) (l : List Int) : Int := l.foldl (fun a c => 10 * a + (c - 48)) v
theorem foldV_cons (v c : Int) (l : List Int) : foldV v (c :: l) = foldV (10 * v + (c - 48)) l := rfl
theorem foldV_zero (l : List Int) : foldV 0 l = val l := rfl
instance (c : Int) : Decidable (Dig c) := by unfold Dig; infer_instance
def allDig (l : List Int) : Bool := l.all fun c => decide (Dig c)
theorem allDig_iff {l : List Int} : allDig l = true ↔ ∀ c ∈ l, Dig c := by unfold allDig; simp
theorem allDig_cons {c : Int} {l : List Int} : allDig (c :: l) = (decide (Dig c) && allDig l) := rfl
theorem dig_lo {c : Int} (h : c < 48) : ¬ Dig c := by unfold Dig; omega
theorem dig_hi {c : Int} (h : c > 57) : ¬ Dig c := by unfold Dig; omega
theorem dig_in {c : Int} (h : ¬ c < 48) (h' : ¬ c > 57) : Dig c := by unfold Dig; omega
/-- the digits of a number, read one by one: v holds what has been read, less than ten to the power of what is left of eighteen -/
theorem impl_readDecimal_l0 (x s : ByteArray) (hs : s.size ≤ 18) : ∀ (R : List Int) (i : Nat) (v : Int), (bytesOf s).drop i = R → i ≤ s.size → 0 ≤ v → v < 10 ^ i →
    Ev (fun k => impl_readDecimal.l0 k x s v i) (if allDig R = true then ((if s.size < x.size then -(foldV v R) else foldV v R), true) else (0, false)) := by
  intro R
  induction R with
  | nil =>
    intro i v h hi v0 v1
    have h1 := bo_drop_nil h
    have hp : (10 : Int) ^ i ≤ 10 ^ 18 := by
      have := Nat.pow_le_pow_right (show 0 < 10 by omega) (show i ≤ 18 by omega)
      have e1 := pow_int i
      have e2 := pow_int 18
      omega
    refine Ev.step (fun k => impl_readDecimal.l0.eq_2 ..) (ev_neg (by omega) ?_)
    rw [if_pos (show allDig [] = true from rfl)]
    by_cases g : s.size < x.size
    · refine ev_pos (by omega) (ev_ret ?_)
      rw [if_pos g, w64 (by omega) (by omega)]; rfl
    · refine ev_neg (by omega) (ev_ret ?_)
      rw [if_neg g]; rfl
  | cons c R ih =>
    intro i v h hi v0 v1
    obtain ⟨h1, h2, h3⟩ := bt_drop h
    have hp : (10 : Int) ^ i ≤ 10 ^ 17 := by
      have := Nat.pow_le_pow_right (show 0 < 10 by omega) (show i ≤ 17 by omega)
      have e1 := pow_int i
      have e2 := pow_int 17
      omega
    refine Ev.step (fun k => impl_readDecimal.l0.eq_2 ..) (ev_pos (by omega) (ev_pos (by omega) ?_))
    rw [h2]
    by_cases a : c < 48
    · exact ev_pos a (ev_ret (by rw [allDig_cons]; simp [dig_lo a]))
    · refine ev_neg a ?_
      by_cases b : c > 57
      · exact ev_pos b (ev_ret (by rw [allDig_cons]; simp [dig_hi b]))
      · refine ev_neg b ?_
        have hd := dig_in a b
        rw [val_take_step hd v0 (by omega), w64 (n := (i : Int) + 1) (by omega) (by omega)]
        have := ih (i + 1) (10 * v + (c - 48)) h3 (by omega) (by unfold Dig at hd; omega) (by unfold Dig at hd; rw [Int.pow_succ]; omega)
        rw [allDig_cons, foldV_cons]
        simp only [hd, decide_true, Bool.true_and]
        exact this
/-- what readDecimal answers -/
def readD1 (D l : List Int) : Int × Bool :=
  if D.length = 0 ∨ D.length > 18 ∨ (D.head? = some 48 ∧ (D.length > 1 ∨ l.length > 1)) then (0, false)
  else if allDig D = true then ((if D.length < l.length then -(val D) else val D), true) else (0, false)
def readD (l : List Int) : Int × Bool := if l.head? = some 45 then readD1 l.tail l else readD1 l l
theorem impl_readDecimal_j2 (x s : ByteArray) (hs : s.size ≤ 18) : Ev (fun k => impl_readDecimal.j2 k x s false) (if allDig (bytesOf s) = true then ((if s.size < x.size then -(val (bytesOf s)) else val (bytesOf s)), true) else (0, false)) := by
  have := impl_readDecimal_l0 x s hs (bytesOf s) 0 0 rfl (by omega) (by omega) (by decide)
  exact Ev.step (fun k => impl_readDecimal.j2.eq_2 ..) (ev_neg (by simp) this)
theorem impl_readDecimal_j2t (x s : ByteArray) : Ev (fun k => impl_readDecimal.j2 k x s true) (0, false) := Ev.step (fun k => impl_readDecimal.j2.eq_2 ..) (ev_pos rfl (Ev.now _))
theorem bt_head {s : ByteArray} (h : 0 < s.size) : (bytesOf s).head? = some (bt s 0) := by
  have hl := bytesOf_length s
  cases hb : bytesOf s with
  | nil => rw [hb] at hl; simp at hl; omega
  | cons c R =>
    obtain ⟨_, h2, _⟩ := bt_drop (i := 0) (R := R) (c := c) (s := s) (by rw [hb]; rfl)
    simp only [List.head?_cons, Option.some.injEq]
    exact h2.symm
theorem impl_readDecimal_j1 (x s : ByteArray) (hx : x.size ≤ 4611686018427387904) (hsx : s.size ≤ x.size) : Ev (fun k => impl_readDecimal.j1 k x s) (readD1 (bytesOf s) (bytesOf x)) := by
  have hl := bytesOf_length s
  have hlx := bytesOf_length x
  unfold readD1
  refine Ev.step (fun k => impl_readDecimal.j1.eq_2 ..) ?_
  by_cases a : (s.size : Int) = 0
  · rw [if_pos (.inl (by omega))]
    exact ev_pos a (impl_readDecimal_j2t x s)
  refine ev_neg a ?_
  by_cases b : (s.size : Int) > 18
  · rw [if_pos (.inr (.inl (by omega)))]
    exact ev_pos b (impl_readDecimal_j2t x s)
  refine ev_neg b (ev_pos (by omega) ?_)
  have hh := bt_head (s := s) (by omega)
  have hj := impl_readDecimal_j2 x s (by omega)
  rw [← hl, ← hlx] at hj
  by_cases c : bt s 0 = 48
  · refine ev_pos c ?_
    by_cases d : (s.size : Int) > 1
    · rw [if_pos (.inr (.inr ⟨by rw [hh, c], .inl (by omega)⟩))]
      exact ev_pos d (impl_readDecimal_j2t x s)
    · refine ev_neg d ?_
      by_cases e : (x.size : Int) > 1
      · rw [if_pos (.inr (.inr ⟨by rw [hh, c], .inr (by omega)⟩)), show decide ((x.size : Int) > 1) = true from decide_eq_true e]
        exact impl_readDecimal_j2t x s
      · rw [show decide ((x.size : Int) > 1) = false from decide_eq_false e, if_neg (by omega)]
        exact hj
  · refine ev_neg c ?_
    rw [if_neg (by rintro (h | h | ⟨h, _⟩); omega; omega; rw [hh] at h; exact c (Option.some.inj h))]
    exact hj
theorem impl_readDecimal_ev (s : ByteArray) (hs : s.size ≤ 4611686018427387904) : Ev (fun k => impl_readDecimal.f k s) (readD (bytesOf s)) := by
  have hl := bytesOf_length s
  unfold impl_readDecimal.f
  by_cases a : (s.size : Int) > 0
  · refine ev_pos a (ev_pos (by omega) ?_)
    have hh := bt_head (s := s) (by omega)
    by_cases b : bt s 0 = 45
    · have e : (bt s 0 == 45) = true := beq_iff_eq.2 b
      rw [e]
      refine Ev.step (fun k => impl_readDecimal.j0.eq_2 ..) (ev_pos rfl (ev_pos (by omega) ?_))
      have hx : bytesOf (s.extract 1 s.size) = (bytesOf s).tail := by
        rw [bo_ext, List.take_of_length_le (by omega), List.drop_one]
      have := impl_readDecimal_j1 s (s.extract 1 s.size) hs (by rw [ByteArray.size_extract]; omega)
      rw [hx] at this
      unfold readD
      rw [if_pos (by rw [hh, b])]
      exact this
    · have e : (bt s 0 == 45) = false := beq_eq_false_iff_ne.2 b
      rw [e]
      refine Ev.step (fun k => impl_readDecimal.j0.eq_2 ..) (ev_neg (by simp) ?_)
      have := impl_readDecimal_j1 s s hs (by omega)
      unfold readD
      rw [if_neg (by rw [hh]; intro h; exact b (Option.some.inj h))]
      exact this
  · refine ev_neg a (Ev.step (fun k => impl_readDecimal.j0.eq_2 ..) (ev_neg (by simp) ?_))
    have := impl_readDecimal_j1 s s hs (by omega)
    unfold readD
    have h0 : bytesOf s = [] := List.eq_nil_of_length_eq_zero (by omega)
    rw [if_neg (by rw [h0]; simp)]
    exact this
/-- It reads just what was written. -/
theorem dec_allDig (n : Nat) : allDig (dec n) = true := allDig_iff.2 (dec_dig n)
theorem dec_head45 (n : Nat) : (dec n).head? ≠ some 45 := by
  intro h
  have : (45 : Int) ∈ dec n := List.mem_of_mem_head? h
  have := dec_dig n 45 this
  unfold Dig at this; omega
theorem dec_head48 {n : Nat} (h : (dec n).head? = some 48) : n = 0 := by
  rcases Nat.eq_zero_or_pos n with g | g
  · exact g
  · exact absurd rfl (dec_head n g 48 h)
theorem readD_numL {n : Int} (h0 : -1000000000000000000 < n) (h1 : n < 1000000000000000000) : readD (numL n) = (n, true) := by
  unfold readD
  by_cases g : n < 0
  · rw [numL_neg g]
    have hl := dec_len_le' (n := -n) (k := 17) (by omega) (by omega)
    have hp := dec_len_pos (-n).toNat
    rw [if_pos (by rfl), List.tail_cons]
    unfold readD1
    rw [if_neg (by
      rintro (h | h | ⟨h, _⟩)
      · omega
      · omega
      · have := dec_head48 h; omega), if_pos (dec_allDig _), if_pos (by simp), val_dec]
    congr 1; omega
  · rw [numL_pos (by omega)]
    have hl := dec_len_le' (n := n) (k := 17) (by omega) (by omega)
    have hp := dec_len_pos n.toNat
    rw [if_neg (dec_head45 _)]
    unfold readD1
    rw [if_neg (by
      rintro (h | h | ⟨h, h'⟩)
      · omega
      · omega
      · have e := dec_head48 h
        have : (dec n.toNat).length = 1 := by rw [e, dec_small (by omega)]; rfl
        omega), if_pos (dec_allDig _), if_neg (by omega), val_dec]
    congr 1; omega
theorem readD_inv {l : List Int} {n : Int} (h : readD l = (n, true)) : l = numL n ∧ -1000000000000000000 < n ∧ n < 1000000000000000000 := by
  unfold readD at h
  by_cases g : l.head? = some 45
  · rw [if_pos g] at h
    obtain ⟨D, rfl⟩ : ∃ D, l = 45 :: D := by
      cases l with
      | nil => simp at g
      | cons c D => simp only [List.head?_cons, Option.some.injEq] at g; subst g; exact ⟨D, rfl⟩
    simp only [List.tail_cons] at h
    unfold readD1 at h
    split at h
    · simp at h
    · rename_i h1
      split at h
      · rename_i h2
        have hD : D ≠ [] := by intro e; subst e; simp at h1
        have hd := allDig_iff.1 h2
        have h48 : D.head? ≠ some 48 := fun e => h1 (.inr (.inr ⟨e, .inr (by
          have : 1 ≤ D.length := by cases D with | nil => exact absurd rfl hD | cons => simp
          simp; omega)⟩))
        have hv := dec_val D hd hD (fun e => absurd e h48)
        have hlt := val_lt D hd
        have hpos : 1 ≤ val D := by
          rcases Int.lt_or_le (val D) 1 with q | q
          · have e0 : val D = 0 := by omega
            have := hv.1
            rw [e0] at this
            rw [← this] at h48
            exact absurd (by rw [Int.toNat_zero, dec_small (by omega)]; rfl) h48
          · exact q
        rw [if_pos (by simp)] at h
        have e : -(val D) = n := (Prod.mk.inj h).1
        have hp : (10 : Int) ^ D.length ≤ 10 ^ 18 := by
          have h18 : D.length ≤ 18 := by
            rcases Nat.lt_or_ge 18 D.length with q | q
            · exact absurd (.inr (.inl q)) h1
            · exact q
          have := Nat.pow_le_pow_right (show 0 < 10 by omega) h18
          have e1 := pow_int D.length
          have e2 := pow_int 18
          omega
        refine ⟨?_, by omega, by omega⟩
        rw [numL_neg (by omega), show -n = val D by omega, hv.1]
      · simp at h
  · rw [if_neg g] at h
    unfold readD1 at h
    split at h
    · simp at h
    · rename_i h1
      split at h
      · rename_i h2
        have hD : l ≠ [] := by intro e; subst e; simp at h1
        have hd := allDig_iff.1 h2
        have hv := dec_val l hd hD (fun e => by
          rcases Nat.lt_or_ge 1 l.length with q | q
          · exact absurd (.inr (.inr ⟨e, .inl q⟩)) h1
          · have : 1 ≤ l.length := by cases l with | nil => exact absurd rfl hD | cons => simp
            omega)
        have hlt := val_lt l hd
        rw [if_neg (by omega)] at h
        have e : val l = n := (Prod.mk.inj h).1
        have hp : (10 : Int) ^ l.length ≤ 10 ^ 18 := by
          have h18 : l.length ≤ 18 := by
            rcases Nat.lt_or_ge 18 l.length with q | q
            · exact absurd (.inr (.inl q)) h1
            · exact q
          have := Nat.pow_le_pow_right (show 0 < 10 by omega) h18
          have e1 := pow_int l.length
          have e2 := pow_int 18
          omega
        refine ⟨?_, by omega, by omega⟩
        rw [numL_pos (by omega), ← e, hv.1]
      · simp at h
theorem readD1_not {D l : List Int} (h : (readD1 D l).2 = false) : readD1 D l = (0, false) := by
  unfold readD1 at h ⊢
  split
  · rfl
  · rename_i h1
    rw [if_neg h1] at h
    split
    · rename_i h2
      rw [if_pos h2] at h; simp at h
    · rfl
theorem readD_not {l : List Int} (h : (readD l).2 = false) : readD l = (0, false) := by
  unfold readD at h ⊢
  split
  · rename_i h1
    rw [if_pos h1] at h
    exact readD1_not h
  · rename_i h1
    rw [if_neg h1] at h
    exact readD1_not h

def valueL (l : List Int) : Int × Bool := if l.length < 1 ∨ l.length > 13 then (0, false) else if allDig l = true then (val l, decide (dec (val l).toNat = l)) else (0, false)
def signedL (l : List Int) : Int × Bool := if l.head? = some 45 then (-(valueL l.tail).1, (valueL l.tail).2 && decide ((valueL l.tail).1 > 0)) else valueL l
theorem foldV_val : ∀ (l : List Int) (v : Int), foldV v l = v * 10 ^ l.length + val l
  | [], v => by simp [foldV, val]
  | c :: l, v => by
    rw [foldV_cons, foldV_val l, ← foldV_zero (c :: l), foldV_cons, foldV_val l, List.length_cons, Int.pow_succ]
    grind
theorem spec_l01Value_l0 (s : ByteArray) (hs : s.size ≤ 13) (hz : ∀ c ∈ bytesOf s, byte c) : ∀ (R : List Int) (i : Nat) (v : Int), (bytesOf s).drop i = R → i ≤ s.size → 0 ≤ v → v < 10 ^ i →
    Ev (fun k => spec_l01Value.l0 k s v i) (if allDig R = true then (foldV v R, decide (dec (foldV v R).toNat = bytesOf s)) else (0, false)) := by
  intro R
  induction R with
  | nil =>
    intro i v h hi v0 v1
    have h1 := bo_drop_nil h
    have hp : (10 : Int) ^ i ≤ 10 ^ 13 := by
      have := Nat.pow_le_pow_right (show 0 < 10 by omega) (show i ≤ 13 by omega)
      have e1 := pow_int i
      have e2 := pow_int 13
      omega
    obtain ⟨r, hr, e⟩ := spec_l01Dec_ev (n := v) v0 (by omega)
    refine Ev.step (fun k => spec_l01Value.l0.eq_2 ..) (ev_neg (by omega) (hr.bind (ev_ret ?_)))
    rw [if_pos (show allDig [] = true from rfl)]
    show (v, r.toList == s.toList) = (v, decide (dec v.toNat = bytesOf s))
    congr 1
    rw [Bool.eq_iff_iff, beq_iff_eq, toList_eq, decide_eq_true_eq, bo_eq, e]
  | cons c R ih =>
    intro i v h hi v0 v1
    obtain ⟨h1, h2, h3⟩ := bt_drop h
    have hp : (10 : Int) ^ i ≤ 10 ^ 13 := by
      have := Nat.pow_le_pow_right (show 0 < 10 by omega) (show i ≤ 13 by omega)
      have e1 := pow_int i
      have e2 := pow_int 13
      omega
    refine Ev.step (fun k => spec_l01Value.l0.eq_2 ..) (ev_pos (by omega) (ev_pos (by omega) ?_))
    rw [h2]
    by_cases a : c < 48
    · exact ev_pos a (ev_ret (by rw [allDig_cons]; simp [dig_lo a]))
    · refine ev_neg a ?_
      by_cases b : c > 57
      · exact ev_pos b (ev_ret (by rw [allDig_cons]; simp [dig_hi b]))
      · refine ev_neg b ?_
        have hd := dig_in a b
        rw [val_take_step hd v0 (by omega), w64 (n := (i : Int) + 1) (by omega) (by omega)]
        have := ih (i + 1) (10 * v + (c - 48)) h3 (by omega) (by unfold Dig at hd; omega) (by unfold Dig at hd; rw [Int.pow_succ]; omega)
        rw [allDig_cons, foldV_cons]
        simp only [hd, decide_true, Bool.true_and]
        exact this
theorem spec_l01Value_ev (s : ByteArray) : Ev (fun k => spec_l01Value.f k s) (valueL (bytesOf s)) := by
  have hl := bytesOf_length s
  unfold spec_l01Value.f valueL
  by_cases a : (s.size : Int) < 1
  · rw [if_pos (.inl (by omega))]
    exact ev_pos a (Ev.step (fun k => spec_l01Value.j0.eq_2 ..) (ev_pos rfl (Ev.now _)))
  · refine ev_neg a (Ev.step (fun k => spec_l01Value.j0.eq_2 ..) ?_)
    by_cases b : (s.size : Int) > 13
    · rw [if_pos (.inr (by omega))]
      exact ev_pos (by simpa using b) (Ev.now _)
    · rw [if_neg (by omega)]
      exact ev_neg (by simpa using b) (spec_l01Value_l0 s (by omega) (bo_byte s) (bytesOf s) 0 0 rfl (by omega) (by omega) (by decide))
theorem valueL_bound (l : List Int) : 0 ≤ (valueL l).1 ∧ (valueL l).1 < 10000000000000 := by
  unfold valueL
  split
  · simp
  · rename_i h
    split
    · rename_i h2
      have := val_lt l (allDig_iff.1 h2)
      have hp : (10 : Int) ^ l.length ≤ 10 ^ 13 := by
        have := Nat.pow_le_pow_right (show 0 < 10 by omega) (show l.length ≤ 13 by omega)
        have e1 := pow_int l.length
        have e2 := pow_int 13
        omega
      exact ⟨this.1, by show val l < _; omega⟩
    · simp
theorem spec_l01Signed_ev (s : ByteArray) (hs : s.size ≤ 4611686018427387904) : Ev (fun k => spec_l01Signed.f k s) (signedL (bytesOf s)) := by
  have hl := bytesOf_length s
  unfold spec_l01Signed.f signedL
  by_cases a : (s.size : Int) > 0
  · refine ev_pos a (ev_pos (by omega) ?_)
    have hh := bt_head (s := s) (by omega)
    by_cases b : bt s 0 = 45
    · have e : (bt s 0 == 45) = true := beq_iff_eq.2 b
      rw [e, if_pos (by rw [hh, b])]
      refine Ev.step (fun k => spec_l01Signed.j0.eq_2 ..) (ev_pos rfl (ev_pos (by omega) ?_))
      have hx : bytesOf (s.extract 1 s.size) = (bytesOf s).tail := by
        rw [bo_ext, List.take_of_length_le (by omega), List.drop_one]
      have hv := spec_l01Value_ev (s.extract 1 s.size)
      rw [hx] at hv
      have hb := valueL_bound (bytesOf s).tail
      refine hv.bind ?_
      rw [w64 (by omega) (by omega)]
      by_cases c : (valueL (bytesOf s).tail).2 = true
      · exact ev_pos c (ev_ret (by rw [c, Bool.true_and]))
      · exact ev_neg c (ev_ret (by rw [Bool.eq_false_iff.2 c, Bool.false_and]))
    · have e : (bt s 0 == 45) = false := beq_eq_false_iff_ne.2 b
      rw [e, if_neg (by rw [hh]; intro h; exact b (Option.some.inj h))]
      exact Ev.step (fun k => spec_l01Signed.j0.eq_2 ..) (ev_neg (by simp) ((spec_l01Value_ev s).bind (Ev.now _)))
  · have h0 : bytesOf s = [] := List.eq_nil_of_length_eq_zero (by omega)
    rw [if_neg (by rw [h0]; simp)]
    exact ev_neg a (Ev.step (fun k => spec_l01Signed.j0.eq_2 ..) (ev_neg (by simp) ((spec_l01Value_ev s).bind (Ev.now _))))
theorem valueL_dec {n : Int} (h0 : 0 ≤ n) (h1 : n < 10000000000000) : valueL (dec n.toNat) = (n, true) := by
  have hl := dec_len_le' (n := n) (k := 12) h0 (by omega)
  have hp := dec_len_pos n.toNat
  unfold valueL
  rw [if_neg (by omega), if_pos (dec_allDig _), val_dec, show ((n.toNat : Nat) : Int) = n by omega]
  simp
theorem valueL_inv {l : List Int} {n : Int} (h : valueL l = (n, true)) : l = dec n.toNat ∧ 0 ≤ n ∧ n < 10000000000000 := by
  have hb := valueL_bound l
  rw [h] at hb
  unfold valueL at h
  split at h
  · simp at h
  · split at h
    · simp only [Prod.mk.injEq, decide_eq_true_eq] at h
      rw [← h.1]
      exact ⟨h.2.symm, by have := h.1; omega, by have := h.1; omega⟩
    · simp at h
theorem signedL_num {n : Int} (h0 : -10000000000000 < n) (h1 : n < 10000000000000) : signedL (numL n) = (n, true) := by
  unfold signedL
  by_cases g : n < 0
  · rw [numL_neg g, if_pos (by rfl), List.tail_cons, valueL_dec (by omega) (by omega)]
    simp; omega
  · rw [numL_pos (by omega), if_neg (dec_head45 _), valueL_dec (by omega) (by omega)]
theorem signedL_inv {l : List Int} {n : Int} (h : signedL l = (n, true)) : l = numL n ∧ -10000000000000 < n ∧ n < 10000000000000 := by
  unfold signedL at h
  by_cases g : l.head? = some 45
  · rw [if_pos g] at h
    obtain ⟨D, rfl⟩ : ∃ D, l = 45 :: D := by
      cases l with
      | nil => simp at g
      | cons c D => simp only [List.head?_cons, Option.some.injEq] at g; subst g; exact ⟨D, rfl⟩
    simp only [List.tail_cons, Prod.mk.injEq, Bool.and_eq_true, decide_eq_true_eq] at h
    obtain ⟨h1, h2, h3⟩ := h
    have hv := valueL_inv (l := D) (n := (valueL D).1) (by rw [← h2])
    have h4 := of_decide_eq_true h3
    rw [numL_neg (show n < 0 by omega), show -n = (valueL D).1 by omega, ← hv.1]
    exact ⟨rfl, by omega, by omega⟩
  · rw [if_neg g] at h
    have hv := valueL_inv h
    rw [numL_pos hv.2.1]
    exact ⟨hv.1, by omega, by omega⟩
theorem valueL_of {l : List Int} (h : ∀ c ∈ l, Dig c) (h1 : 1 ≤ l.length) (h2 : l.length ≤ 13) (hz : l.head? = some 48 → l.length = 1) : valueL l = (val l, true) := by
  unfold valueL
  rw [if_neg (by omega), if_pos (allDig_iff.2 h), decide_eq_true (dec_val l h (by intro e; subst e; simp at h1) hz).1]

/-! ### articles read -/
def allR (f : List Int → Int × Bool) : List ByteArray → Option (List Int)
  | [] => some []
  | w :: R => if (f (bytesOf w)).2 = true then (allR f R).map ((f (bytesOf w)).1 :: ·) else none
theorem allR_some {f : List Int → Int × Bool} : ∀ (R : List ByteArray) (ns : List Int), R.map bytesOf = ns.map numL → (∀ n ∈ ns, f (numL n) = (n, true)) → allR f R = some ns
  | [], [], _, _ => rfl
  | [], n :: ns, h, _ => by simp at h
  | w :: R, [], h, _ => by simp at h
  | w :: R, n :: ns, h, hf => by
    simp only [List.map_cons, List.cons.injEq] at h
    have h1 := hf n (by simp)
    have h2 := allR_some R ns h.2 (fun m hm => hf m (by simp [hm]))
    simp [allR, h.1, h1, h2]
theorem allR_inv {f : List Int → Int × Bool} (hf : ∀ l n, f l = (n, true) → l = numL n) : ∀ (R : List ByteArray) (v : List Int), allR f R = some v → R.map bytesOf = v.map numL
  | [], v, h => by simp only [allR, Option.some.injEq] at h; subst h; rfl
  | w :: R, v, h => by
    simp only [allR] at h
    split at h
    · rename_i g
      obtain ⟨v', h1, rfl⟩ := Option.map_eq_some_iff.mp h
      have h2 := allR_inv hf R v' h1
      have h3 := hf (bytesOf w) (f (bytesOf w)).1 (by rw [← g])
      simp [h2, ← h3]
    · exact absurd h (by simp)
def ArtN (c : ByteArray) (ns : List Int) : Bool := ArtB c (rd ns 0) (rd ns 1) (rd ns 2) (rd ns 3) (rd ns 4) (rd ns 5) (rd ns 6) (rd ns 7)
abbrev RA := ByteArray × Int × Int × Int × Int × Int × Int × Int × Int × Int
def failA : RA := (⟨#[]⟩, 0, 0, 0, 0, 0, 0, 0, 0, 6)
def finA (ws : List ByteArray) (ns : List Int) : RA := if ArtN (rdOf ByteArray.empty ws 0) ns = true then (rdOf ByteArray.empty ws 0, rd ns 0, rd ns 1, rd ns 2, rd ns 3, rd ns 4, rd ns 5, rd ns 6, rd ns 7, 0) else failA
def endA (ws : List ByteArray) : Option (List Int) → RA
  | some ns => finA ws ns
  | none => failA
theorem eight {ns : List Int} (h : ns.length = 8) : ∃ a b c d e f g i, ns = [a, b, c, d, e, f, g, i] := by
  rcases ns with _ | ⟨a, _ | ⟨b, _ | ⟨c, _ | ⟨d, _ | ⟨e, _ | ⟨f, _ | ⟨g, _ | ⟨i, _ | ⟨j, t⟩⟩⟩⟩⟩⟩⟩⟩⟩
  all_goals first | (simp at h; done) | (simp at h; omega) | exact ⟨a, b, c, d, e, f, g, i, rfl⟩
theorem artN_small {c : ByteArray} {ns : List Int} (h : ns.length = 8) (g : ArtN c ns = true) : ∀ n ∈ ns, 0 ≤ n ∧ n ≤ 100000 := by
  obtain ⟨a, b, d, e, f, i, j, k, rfl⟩ := eight h
  obtain ⟨_, h1, h2, h3, h4, h5, h6, h7, h8⟩ := artB_true g
  have e0 : rd [a, b, d, e, f, i, j, k] 0 = a := rfl
  have e1 : rd [a, b, d, e, f, i, j, k] 1 = b := rfl
  have e2 : rd [a, b, d, e, f, i, j, k] 2 = d := rfl
  have e3 : rd [a, b, d, e, f, i, j, k] 3 = e := rfl
  have e4 : rd [a, b, d, e, f, i, j, k] 4 = f := rfl
  have e5 : rd [a, b, d, e, f, i, j, k] 5 = i := rfl
  have e6 : rd [a, b, d, e, f, i, j, k] 6 = j := rfl
  have e7 : rd [a, b, d, e, f, i, j, k] 7 = k := rfl
  rw [e0] at h1; rw [e1] at h2; rw [e2] at h3 h4; rw [e3] at h4; rw [e4] at h5; rw [e5] at h6; rw [e6] at h7; rw [e7] at h8
  intro n hn
  simp only [List.mem_cons, List.not_mem_nil, or_false] at hn
  rcases hn with rfl | rfl | rfl | rfl | rfl | rfl | rfl | rfl <;> omega
theorem artN_fail {c : ByteArray} {ns : List Int} (ws : List ByteArray) (h : ¬ ArtN (rdOf ByteArray.empty ws 0) ns = true) : finA ws ns = failA := by unfold finA; rw [if_neg h]
theorem finA_pos {ws : List ByteArray} {ns : List Int} (g : ArtB (rdOf ByteArray.empty ws 0) (rd ns 0) (rd ns 1) (rd ns 2) (rd ns 3) (rd ns 4) (rd ns 5) (rd ns 6) (rd ns 7) = true) : finA ws ns = (rdOf ByteArray.empty ws 0, rd ns 0, rd ns 1, rd ns 2, rd ns 3, rd ns 4, rd ns 5, rd ns 6, rd ns 7, 0) := by unfold finA ArtN; rw [if_pos g]
theorem finA_neg {ws : List ByteArray} {ns : List Int} (g : ¬ ArtB (rdOf ByteArray.empty ws 0) (rd ns 0) (rd ns 1) (rd ns 2) (rd ns 3) (rd ns 4) (rd ns 5) (rd ns 6) (rd ns 7) = true) : finA ws ns = failA := by unfold finA ArtN; rw [if_neg g]
/-- What reading the words answers, whichever of the two readers of numbers is used. -/
theorem endA_same {f g : List Int → Int × Bool} (ws : List ByteArray) (hw : ws.length = 9) (hf : ∀ l n, f l = (n, true) → l = numL n) (hg : ∀ l n, g l = (n, true) → l = numL n)
    (hf' : ∀ n, 0 ≤ n → n ≤ 100000 → f (numL n) = (n, true)) (hg' : ∀ n, 0 ≤ n → n ≤ 100000 → g (numL n) = (n, true)) : endA ws (allR f (ws.drop 1)) = endA ws (allR g (ws.drop 1)) := by
  by_cases h : ∃ ns, (ws.drop 1).map bytesOf = ns.map numL ∧ ArtN (rdOf ByteArray.empty ws 0) ns = true
  · obtain ⟨ns, h1, h2⟩ := h
    have hl : ns.length = 8 := by have := congrArg List.length h1; simp at this; omega
    have hb := artN_small hl h2
    rw [allR_some _ ns h1 (fun n hn => hf' n (hb n hn).1 (hb n hn).2), allR_some _ ns h1 (fun n hn => hg' n (hb n hn).1 (hb n hn).2)]
  · have key : ∀ (f : List Int → Int × Bool), (∀ l n, f l = (n, true) → l = numL n) → endA ws (allR f (ws.drop 1)) = failA := by
      intro f hf
      cases e : allR f (ws.drop 1) with
      | none => rfl
      | some v => exact artN_fail (c := ⟨#[]⟩) ws (fun g => h ⟨v, allR_inv hf _ _ e, g⟩)
    rw [key f hf, key g hg]
theorem w0_size (s : ByteArray) (hw : (splB 47 s).length = 9) : (rdOf ByteArray.empty (splB 47 s) 0).size ≤ s.size := by
  refine splB_size 47 s _ ?_
  unfold rdOf
  rw [List.getD_eq_getElem?_getD, List.getElem?_eq_getElem (by show 0 < (splB 47 s).length; omega)]
  exact List.getElem_mem _
theorem rdOf_dropS {l R : List ByteArray} {c : ByteArray} {i : Nat} (h : l.drop i = c :: R) : (i : Int) < l.length ∧ rdOf ByteArray.empty l i = c ∧ l.drop (i + 1) = R := by
  obtain ⟨h1, h2, h3⟩ := rdOf_drop (d := ByteArray.empty) h
  exact ⟨by omega, h2, h3⟩
theorem impl_ReadArticle_fin (ws : List ByteArray) (ns : List Int) (hw : ws.length = 9) (hn : ns.length = 8) (hs : (rdOf ByteArray.empty ws 0).size ≤ 4611686018427387904) : Ev (fun k => impl_ReadArticle.l0 k ws ns 8) (finA ws ns) := by
  refine Ev.step (fun k => impl_ReadArticle.l0.eq_2 ..) (ev_neg (by omega) ?_)
  refine ev_pos (by omega) (ev_pos (by omega) (ev_pos (by omega) (ev_pos (by omega) (ev_pos (by omega) (ev_pos (by omega) (ev_pos (by omega) (ev_pos (by omega) (ev_pos (by omega) ((impl_IsArticle_ev _ _ _ _ _ _ _ _ _ hs).bind ?_)))))))))
  by_cases g : ArtB (rdOf ByteArray.empty ws 0) (rd ns 0) (rd ns 1) (rd ns 2) (rd ns 3) (rd ns 4) (rd ns 5) (rd ns 6) (rd ns 7) = true
  · rw [finA_pos g]; exact ev_pos g (Ev.now _)
  · rw [finA_neg g]; exact ev_neg g (Ev.now _)
theorem take_set {ns : List Int} {i : Nat} (h : i < ns.length) (m : Int) : (ns.set i m).take (i + 1) = ns.take i ++ [m] := by
  rw [List.take_set, List.take_add_one, List.getElem?_eq_getElem h]
  rw [List.set_append_right _ _ (by rw [List.length_take]; omega), List.length_take, Nat.min_eq_left (by omega), Nat.sub_self]
  rfl
theorem impl_ReadArticle_l0 (ws : List ByteArray) (hw : ws.length = 9) (hs : ∀ w ∈ ws, w.size ≤ 4611686018427387904) : ∀ (R : List ByteArray) (i : Nat) (ns : List Int), ws.drop (i + 1) = R → i ≤ 8 → ns.length = 8 →
    Ev (fun k => impl_ReadArticle.l0 k ws ns i) (endA ws ((allR readD R).map (ns.take i ++ ·))) := by
  have h0 : (rdOf ByteArray.empty ws 0).size ≤ 4611686018427387904 := by
    refine hs _ ?_
    unfold rdOf
    rw [List.getD_eq_getElem?_getD, List.getElem?_eq_getElem (by show 0 < ws.length; omega)]
    exact List.getElem_mem _
  intro R
  induction R with
  | nil =>
    intro i ns h hi hn
    have hi8 : i = 8 := by have := congrArg List.length h; simp at this; omega
    subst hi8
    have := impl_ReadArticle_fin ws ns hw hn h0
    simp only [allR, Option.map_some, endA, List.append_nil]
    rw [List.take_of_length_le (by omega)]
    exact this
  | cons c R ih =>
    intro i ns h hi hn
    obtain ⟨p1, p2, p3⟩ := rdOf_dropS h
    have hi8 : i < 8 := by omega
    refine Ev.step (fun k => impl_ReadArticle.l0.eq_2 ..) (ev_pos (by omega) ?_)
    rw [w64 (n := (i : Int) + 1) (by omega) (by omega), show ((i : Int) + 1) = ((i + 1 : Nat) : Int) by omega, p2]
    have hc : c ∈ ws := List.mem_of_mem_drop (i := i + 1) (by rw [h]; simp)
    refine (impl_readDecimal_ev c (hs c hc)).bind ?_
    simp only [allR]
    by_cases g : (readD (bytesOf c)).2 = true
    · refine ev_pos g ?_
      have := ih (i + 1) (ns.set i (readD (bytesOf c)).1) p3 (by omega) (by rw [List.length_set]; exact hn)
      rw [take_set (by omega)] at this
      rw [if_pos g]
      cases e : allR readD R with
      | none => rw [e] at this; exact this
      | some v => rw [e] at this; simpa using this
    · rw [if_neg g]; exact ev_neg g (Ev.now _)
theorem impl_ReadArticle_ev (s : ByteArray) (hs : s.size ≤ 1000000) : Ev (fun k => impl_ReadArticle.f k s) (if (splB 47 s).length = 9 then endA (splB 47 s) (allR readD ((splB 47 s).drop 1)) else failA) := by
  unfold impl_ReadArticle.f
  refine (impl_splitAt_ev s 47 hs).bind ?_
  by_cases h : (splB 47 s).length = 9
  · rw [if_pos h]
    refine ev_pos (by omega) ?_
    have := impl_ReadArticle_l0 (splB 47 s) h (fun w hw => by have := splB_size 47 s w hw; omega) _ 0 [0, 0, 0, 0, 0, 0, 0, 0] rfl (by omega) rfl
    simpa using this
  · rw [if_neg h]; exact ev_neg (by omega) (Ev.now _)
theorem spec_l01Numbers_l0 (ws : List ByteArray) (hl : ws.length ≤ 1000) (hs : ∀ w ∈ ws, w.size ≤ 4611686018427387904) : ∀ (R : List ByteArray) (i : Nat) (acc : List Int), ws.drop i = R → acc.length ≤ i →
    Ev (fun k => spec_l01Numbers.l0 k ws acc i) (match allR signedL R with | some v => (acc ++ v, true) | none => ([], false)) := by
  intro R
  induction R with
  | nil =>
    intro i acc h ha
    have := drop_nil h
    exact Ev.step (fun k => spec_l01Numbers.l0.eq_2 ..) (ev_neg (by omega) (ev_ret (by simp [allR])))
  | cons c R ih =>
    intro i acc h ha
    obtain ⟨p1, p2, p3⟩ := rdOf_dropS h
    have hc : c ∈ ws := List.mem_of_mem_drop (i := i) (by rw [h]; simp)
    refine Ev.step (fun k => spec_l01Numbers.l0.eq_2 ..) (ev_pos p1 (ev_pos (by omega) ?_))
    rw [p2]
    refine (spec_l01Signed_ev c (hs c hc)).bind ?_
    simp only [allR]
    by_cases g : (signedL (bytesOf c)).2 = true
    · refine ev_pos g (ev_pos (by omega) ?_)
      rw [w64 (n := (i : Int) + 1) (by omega) (by omega), if_pos g]
      have := ih (i + 1) (acc ++ [(signedL (bytesOf c)).1]) p3 (by simp; omega)
      cases e : allR signedL R with
      | none => rw [e] at this; exact this
      | some v => rw [e] at this; simpa using this
    · rw [if_neg g]; exact ev_neg g (Ev.now _)
theorem allR_len {f : List Int → Int × Bool} : ∀ (R : List ByteArray) (v : List Int), allR f R = some v → v.length = R.length
  | [], v, h => by simp only [allR, Option.some.injEq] at h; subst h; rfl
  | w :: R, v, h => by
    simp only [allR] at h
    split at h
    · obtain ⟨v', h1, rfl⟩ := Option.map_eq_some_iff.mp h
      simp [allR_len R v' h1]
    · exact absurd h (by simp)
theorem spec_ReadArticle_ev (s : ByteArray) (hs : s.size ≤ 1000000) : Ev (fun k => spec_ReadArticle.f k s) (if (splB 47 s).length = 9 then endA (splB 47 s) (allR signedL ((splB 47 s).drop 1)) else failA) := by
  unfold spec_ReadArticle.f
  refine (spec_l01Split_ev s 47 hs).bind ?_
  by_cases h : (splB 47 s).length = 9
  · rw [if_pos h]
    refine ev_pos (by omega) (ev_pos (by omega) ?_)
    have hn := spec_l01Numbers_l0 ((splB 47 s).drop 1) (by rw [List.length_drop]; omega) (fun w hw => by have := splB_size 47 s w (List.mem_of_mem_drop hw); omega) _ 0 [] rfl (by simp)
    have h0 := w0_size s h
    cases e : allR signedL ((splB 47 s).drop 1) with
    | none =>
      rw [List.drop_zero, e] at hn
      have hn' : Ev (fun k => spec_l01Numbers.f k ((splB 47 s).drop 1)) ([], false) := hn
      exact hn'.bind (ev_neg (by simp) (Ev.now _))
    | some v =>
      rw [List.drop_zero, e] at hn
      have hn' : Ev (fun k => spec_l01Numbers.f k ((splB 47 s).drop 1)) (v, true) := hn
      have hv := allR_len _ _ e
      rw [List.length_drop] at hv
      refine hn'.bind (ev_pos rfl ?_)
      simp only [endA]
      refine ev_pos (by omega) (ev_pos (by omega) (ev_pos (by omega) (ev_pos (by omega) (ev_pos (by omega) (ev_pos (by omega) (ev_pos (by omega) (ev_pos (by omega) (ev_pos (by omega) ((spec_IsArticle_ev _ _ _ _ _ _ _ _ _ (by omega)).bind ?_)))))))))
      by_cases g : ArtB (rdOf ByteArray.empty (splB 47 s) 0) (rd v 0) (rd v 1) (rd v 2) (rd v 3) (rd v 4) (rd v 5) (rd v 6) (rd v 7) = true
      · rw [finA_pos g]; exact ev_pos g (Ev.now _)
      · rw [finA_neg g]; exact ev_neg g (Ev.now _)
  · rw [if_neg h]; exact ev_neg (by omega) (Ev.now _)
def readA (s : ByteArray) : RA := if (splB 47 s).length = 9 then endA (splB 47 s) (allR readD ((splB 47 s).drop 1)) else failA
theorem readA_spec (s : ByteArray) : (if (splB 47 s).length = 9 then endA (splB 47 s) (allR signedL ((splB 47 s).drop 1)) else failA) = readA s := by
  unfold readA
  by_cases h : (splB 47 s).length = 9
  · rw [if_pos h, if_pos h]
    exact endA_same _ h (fun l n e => (signedL_inv e).1) (fun l n e => (readD_inv e).1) (fun n a b => signedL_num (by omega) (by omega)) (fun n a b => readD_numL (by omega) (by omega))
  · rw [if_neg h, if_neg h]
theorem ReadArticle_both (s : ByteArray) (hs : s.size ≤ 1000000) : Ev (fun k => impl_ReadArticle.f k s) (readA s) ∧ Ev (fun k => spec_ReadArticle.f k s) (readA s) := by
  refine ⟨impl_ReadArticle_ev s hs, ?_⟩
  have := spec_ReadArticle_ev s hs
  rwa [readA_spec] at this

/-! ### the text of an article -/
def jrN (b : Int) : List Int → List Int
  | [] => []
  | n :: l => b :: (numL n ++ jrN b l)
def artL (c : ByteArray) (l : List Int) : List Int := bytesOf c ++ jrN 47 l
theorem bo_slash' : bytesOf (⟨#[47]⟩ : ByteArray) = [47] := rfl
theorem sz_slash' : (⟨#[47]⟩ : ByteArray).size = 1 := rfl
theorem impl_articleText_l0 (l : List Int) (hl : l.length ≤ 100) (hv : ∀ n ∈ l, -1000000000000000000 ≤ n ∧ n ≤ 1000000000000000000) : ∀ (R : List Int) (i : Nat) (A : ByteArray), l.drop i = R → A.size ≤ 1000000 + i * 100 →
    ∃ r, Ev (fun k => impl_articleText.l0 k A l (l.length : Int) i) r ∧ bytesOf r = bytesOf A ++ jrN 47 R ∧ r.size ≤ A.size + 21 * R.length := by
  intro R
  induction R with
  | nil =>
    intro i A h hA
    have := drop_nil h
    exact ⟨A, Ev.step (fun k => impl_articleText.l0.eq_2 ..) (ev_neg (by omega) (Ev.now _)), by simp [jrN], by omega⟩
  | cons n R ih =>
    intro i A h hA
    obtain ⟨h1, h2, h3⟩ := rd_drop h
    have hn : n ∈ l := by
      have : n ∈ l.drop i := by rw [h]; simp
      exact List.mem_of_mem_drop this
    have hb := hv n hn
    obtain ⟨t, et, ht⟩ := impl_decimal_ev (n := n) (by omega) (by omega)
    have hts : t.size ≤ 20 := by rw [sz_bo ht]; exact numL_len (n := n) (by omega) (by omega)
    have hs : ((⟨#[47]⟩ : ByteArray) ++ t).size = 1 + t.size := by rw [ByteArray.size_append, sz_slash']
    obtain ⟨r, er, hr, hr'⟩ := ih (i + 1) (A ++ ((⟨#[47]⟩ : ByteArray) ++ t)) h3 (by rw [ByteArray.size_append, hs]; omega)
    refine ⟨r, Ev.step (fun k => impl_articleText.l0.eq_2 ..) (ev_pos (by omega) (ev_pos (by omega) (ev_pos (by omega) ?_))), ?_, ?_⟩
    · rw [h2, w64 (n := (i : Int) + 1) (by omega) (by omega)]
      exact et.bind (ev_pos (by omega) (ev_pos (by omega) er))
    · rw [hr, bo_app, bo_app, bo_slash', ht, jrN, List.append_assoc]; simp
    · rw [ByteArray.size_append, hs] at hr'
      simp only [List.length_cons]; omega
def joN (b : Int) (i : Nat) (R : List Int) : List Int := if i = 0 then (match R with | [] => [] | n :: l => numL n ++ jrN b l) else jrN b R
theorem spec_l01JoinS_l0 (l : List Int) (hl : l.length ≤ 100) (hv : ∀ n ∈ l, -1000000000000000000 ≤ n ∧ n ≤ 1000000000000000000) : ∀ (R : List Int) (i : Nat) (A : ByteArray), l.drop i = R → A.size ≤ i * 100 →
    ∃ r, Ev (fun k => spec_l01Join.l0 k l ⟨#[47]⟩ A i) r ∧ bytesOf r = bytesOf A ++ joN 47 i R ∧ r.size ≤ A.size + 21 * R.length := by
  intro R
  induction R with
  | nil =>
    intro i A h hA
    have := drop_nil h
    exact ⟨A, Ev.step (fun k => spec_l01Join.l0.eq_2 ..) (ev_neg (by omega) (Ev.now _)), by unfold joN; split <;> simp [jrN], by omega⟩
  | cons n R ih =>
    intro i A h hA
    obtain ⟨h1, h2, h3⟩ := rd_drop h
    have hn : n ∈ l := by
      have : n ∈ l.drop i := by rw [h]; simp
      exact List.mem_of_mem_drop this
    have hb := hv n hn
    obtain ⟨w, ew, hw⟩ := spec_l01Number_ev (n := n) (by omega) (by omega)
    have hws : w.size ≤ 20 := by rw [sz_bo hw]; exact numL_len (n := n) (by omega) (by omega)
    cases i with
    | zero =>
      obtain ⟨r, er, hr, hr'⟩ := ih 1 (A ++ w) h3 (by rw [ByteArray.size_append]; omega)
      refine ⟨r, Ev.step (fun k => spec_l01Join.l0.eq_2 ..) (ev_pos (by omega) (ev_neg (by omega) (ev_pos (by omega) ?_))), ?_, ?_⟩
      · rw [h2, w64 (by omega) (by omega)]
        exact ew.bind (ev_pos (by omega) er)
      · rw [hr, bo_app, hw, List.append_assoc]; rfl
      · rw [ByteArray.size_append] at hr'
        simp only [List.length_cons]; omega
    | succ i =>
      obtain ⟨r, er, hr, hr'⟩ := ih (i + 2) ((A ++ ⟨#[47]⟩) ++ w) h3 (by rw [ByteArray.size_append, ByteArray.size_append, sz_slash']; omega)
      refine ⟨r, Ev.step (fun k => spec_l01Join.l0.eq_2 ..) (ev_pos (by omega) (ev_pos (by omega) (ev_pos (by rw [sz_slash']; omega) (ev_pos (by omega) ?_)))), ?_, ?_⟩
      · rw [h2, w64 (n := ((i + 1 : Nat) : Int) + 1) (by omega) (by omega)]
        exact ew.bind (ev_pos (by rw [ByteArray.size_append, sz_slash']; omega) er)
      · rw [hr, bo_app, bo_app, hw, bo_slash']
        unfold joN
        rw [if_neg (by omega), if_neg (by omega), jrN]
        simp
      · rw [ByteArray.size_append, ByteArray.size_append, sz_slash'] at hr'
        simp only [List.length_cons]; omega
def nums8 (a1 a2 a3 a4 a5 a6 a7 a8 : Int) : List Int := [a1, a2, a3, a4, a5, a6, a7, a8]
theorem art_vals {c : ByteArray} {a1 a2 a3 a4 a5 a6 a7 a8 : Int} (h : ArtB c a1 a2 a3 a4 a5 a6 a7 a8 = true) : (∀ n ∈ nums8 a1 a2 a3 a4 a5 a6 a7 a8, 0 ≤ n ∧ n ≤ 100000) ∧ c.size ≤ 16 := by
  obtain ⟨h1, h2, h3, h4, h5, h6, h7, h8, h9⟩ := artB_true h
  constructor
  · intro n hn
    unfold nums8 at hn
    simp only [List.mem_cons, List.not_mem_nil, or_false] at hn
    omega
  · unfold wordL at h1
    simp only [Bool.and_eq_true, decide_eq_true_eq] at h1
    have := h1.1.2
    rwa [bytesOf_length] at this
theorem impl_articleText_ev {c : ByteArray} {a1 a2 a3 a4 a5 a6 a7 a8 : Int} (h : ArtB c a1 a2 a3 a4 a5 a6 a7 a8 = true) : ∃ r, Ev (fun k => impl_articleText.f k c a1 a2 a3 a4 a5 a6 a7 a8) r ∧ bytesOf r = artL c (nums8 a1 a2 a3 a4 a5 a6 a7 a8) ∧ r.size ≤ 200 := by
  obtain ⟨hv, hc⟩ := art_vals h
  obtain ⟨r, er, hr, hr'⟩ := impl_articleText_l0 (nums8 a1 a2 a3 a4 a5 a6 a7 a8) (by simp [nums8]) (fun n hn => by have := hv n hn; omega) _ 0 c rfl (by omega)
  simp only [nums8, List.drop_zero, List.length_cons, List.length_nil] at hr'
  refine ⟨r, ?_, hr, by omega⟩
  exact ev_bind0 rfl er
theorem spec_l03Text_ev {c : ByteArray} {a1 a2 a3 a4 a5 a6 a7 a8 : Int} (h : ArtB c a1 a2 a3 a4 a5 a6 a7 a8 = true) : ∃ r, Ev (fun k => spec_l03Text.f k c a1 a2 a3 a4 a5 a6 a7 a8) r ∧ bytesOf r = artL c (nums8 a1 a2 a3 a4 a5 a6 a7 a8) ∧ r.size ≤ 200 := by
  obtain ⟨hv, hc⟩ := art_vals h
  obtain ⟨r, er, hr, hr'⟩ := spec_l01JoinS_l0 (nums8 a1 a2 a3 a4 a5 a6 a7 a8) (by simp [nums8]) (fun n hn => by have := hv n hn; omega) _ 0 ⟨#[]⟩ rfl (by have : (⟨#[]⟩ : ByteArray).size = 0 := rfl; omega)
  simp only [nums8, List.drop_zero, List.length_cons, List.length_nil] at hr'
  have z0 : (⟨#[]⟩ : ByteArray).size = 0 := rfl
  have er' : Ev (fun k => spec_l01Join.f k [a1, a2, a3, a4, a5, a6, a7, a8] ⟨#[47]⟩) r := er
  refine ⟨_, ev_pos (by omega) (er'.bind (ev_pos (by rw [ByteArray.size_append, sz_slash']; omega) (Ev.now _))), ?_, ?_⟩
  · rw [bo_app, bo_app, hr, bo_slash', bo_nil]
    unfold artL nums8 joN
    simp [jrN]
  · rw [ByteArray.size_append, ByteArray.size_append, sz_slash']; omega
def ArtT (c : ByteArray) (a1 a2 a3 a4 a5 a6 a7 a8 : Int) (r : ByteArray × Int) : Prop :=
  (ArtB c a1 a2 a3 a4 a5 a6 a7 a8 = false ∧ r = (⟨#[]⟩, 1)) ∨ (ArtB c a1 a2 a3 a4 a5 a6 a7 a8 = true ∧ bytesOf r.1 = artL c (nums8 a1 a2 a3 a4 a5 a6 a7 a8) ∧ r.2 = 0 ∧ r.1.size ≤ 200)
theorem artT_uniq {c : ByteArray} {a1 a2 a3 a4 a5 a6 a7 a8 : Int} {a b : ByteArray × Int} (h : ArtT c a1 a2 a3 a4 a5 a6 a7 a8 a) (k : ArtT c a1 a2 a3 a4 a5 a6 a7 a8 b) : a = b := by
  rcases h with ⟨h1, rfl⟩ | ⟨h1, h2, h3, _⟩ <;> rcases k with ⟨k1, rfl⟩ | ⟨k1, k2, k3, _⟩
  · rfl
  · rw [h1] at k1; cases k1
  · rw [h1] at k1; cases k1
  · obtain ⟨a1, a2⟩ := a; obtain ⟨b1, b2⟩ := b
    simp only at *
    rw [h3, k3, bo_inj (h2.trans k2.symm)]
theorem impl_ArticleText_ev (c : ByteArray) (a1 a2 a3 a4 a5 a6 a7 a8 : Int) (hs : c.size ≤ 4611686018427387904) : ∃ r, Ev (fun k => impl_ArticleText.f k c a1 a2 a3 a4 a5 a6 a7 a8) r ∧ ArtT c a1 a2 a3 a4 a5 a6 a7 a8 r := by
  have h := impl_IsArticle_ev c a1 a2 a3 a4 a5 a6 a7 a8 hs
  by_cases g : ArtB c a1 a2 a3 a4 a5 a6 a7 a8 = true
  · obtain ⟨r, er, hr, hr'⟩ := impl_articleText_ev g
    exact ⟨(r, 0), h.bind (ev_pos g (er.bind (Ev.now _))), .inr ⟨g, hr, rfl, hr'⟩⟩
  · exact ⟨_, h.bind (ev_neg g (Ev.now _)), .inl ⟨by simpa using g, rfl⟩⟩
theorem spec_ArticleText_ev (c : ByteArray) (a1 a2 a3 a4 a5 a6 a7 a8 : Int) (hs : c.size ≤ 4611686018427387904) : ∃ r, Ev (fun k => spec_ArticleText.f k c a1 a2 a3 a4 a5 a6 a7 a8) r ∧ ArtT c a1 a2 a3 a4 a5 a6 a7 a8 r := by
  have h := spec_IsArticle_ev c a1 a2 a3 a4 a5 a6 a7 a8 hs
  by_cases g : ArtB c a1 a2 a3 a4 a5 a6 a7 a8 = true
  · obtain ⟨r, er, hr, hr'⟩ := spec_l03Text_ev g
    exact ⟨(r, 0), h.bind (ev_pos g (er.bind (Ev.now _))), .inr ⟨g, hr, rfl, hr'⟩⟩
  · exact ⟨_, h.bind (ev_neg g (Ev.now _)), .inl ⟨by simpa using g, rfl⟩⟩
theorem ArticleText_both (c : ByteArray) (a1 a2 a3 a4 a5 a6 a7 a8 : Int) (hs : c.size ≤ 4611686018427387904) : ∃ r, Ev (fun k => impl_ArticleText.f k c a1 a2 a3 a4 a5 a6 a7 a8) r ∧ Ev (fun k => spec_ArticleText.f k c a1 a2 a3 a4 a5 a6 a7 a8) r ∧ ArtT c a1 a2 a3 a4 a5 a6 a7 a8 r := by
  obtain ⟨a, ha, ha'⟩ := impl_ArticleText_ev c a1 a2 a3 a4 a5 a6 a7 a8 hs
  obtain ⟨b, hb, hb'⟩ := spec_ArticleText_ev c a1 a2 a3 a4 a5 a6 a7 a8 hs
  obtain rfl := artT_uniq ha' hb'
  exact ⟨a, ha, hb, ha'⟩

theorem l01Damage_some {c : List Int} {a s : Int} (h : Src c a s) {t : ByteArray} (ht : t.size ≤ 100000) : ∃ r a' s', spec_l01Damage.f c a s t = some (r, a', s') ∧ Src c a' s' ∧ r.size ≤ t.size + 1 := by
  unfold spec_l01Damage.f
  rw [w64 (n := (t.size : Int) + 1) (by omega) (by omega)]
  obtain ⟨k, a1, s1, e1, h1, k0, k1, _⟩ := l01Next_some h (n := (t.size : Int) + 1) (by omega)
  obtain ⟨m, a2, s2, e2, h2, m0, m1, _⟩ := l01Next_some h1 (n := 8) (by omega)
  have k2 := k1 (by omega)
  rw [e1, Option.bind_some, e2, Option.bind_some]
  dsimp only
  have z1 : (t.extract 0 k.toNat).size = k.toNat := by rw [ByteArray.size_extract]; omega
  have z2 : (t.extract k.toNat t.size).size = t.size - k.toNat := by rw [ByteArray.size_extract]; omega
  by_cases g0 : m = 0
  · rw [if_pos g0, if_pos k0, if_pos (by omega)]
    exact ⟨_, _, _, rfl, h2, by omega⟩
  · rw [if_neg g0]
    by_cases g1 : m = 1
    · rw [if_pos g1, if_pos k0, if_pos (by omega), Option.bind_some]
      obtain ⟨q, a3, s3, e3, h3, q0, q1, _⟩ := l01Next_some h2 (n := 8) (by omega)
      have q2 := q1 (by omega)
      rw [e3, Option.bind_some]
      dsimp only
      rw [if_pos q0, if_pos (by simpa using q2)]
      have z3 : (rdOf ByteArray.empty [(⟨#[48]⟩ : ByteArray), (⟨#[35]⟩ : ByteArray), (⟨#[46]⟩ : ByteArray), (⟨#[47]⟩ : ByteArray), (⟨#[32]⟩ : ByteArray), (⟨#[97]⟩ : ByteArray), (⟨#[45]⟩ : ByteArray), (⟨#[10]⟩ : ByteArray)] q).size = 1 := by
        unfold rdOf
        have : q.toNat = 0 ∨ q.toNat = 1 ∨ q.toNat = 2 ∨ q.toNat = 3 ∨ q.toNat = 4 ∨ q.toNat = 5 ∨ q.toNat = 6 ∨ q.toNat = 7 := by omega
        rcases this with e | e | e | e | e | e | e | e <;> rw [e] <;> rfl
      rw [if_pos (by omega), if_pos (by rw [ByteArray.size_append]; omega)]
      exact ⟨_, _, _, rfl, h3, by rw [ByteArray.size_append, ByteArray.size_append]; omega⟩
    · rw [if_neg g1]
      by_cases g2 : m = 2
      · rw [if_pos g2]
        by_cases g3 : k < (t.size : Int)
        · have z4 : (t.extract (k + 1).toNat t.size).size = t.size - (k + 1).toNat := by rw [ByteArray.size_extract]; omega
          rw [if_pos g3, if_pos k0, if_pos (by omega), w64 (n := k + 1) (by omega) (by omega), if_pos (by omega), if_pos (by omega), if_pos (by omega)]
          exact ⟨_, _, _, rfl, h2, by rw [ByteArray.size_append]; omega⟩
        · rw [if_neg g3]
          exact ⟨_, _, _, rfl, h2, by omega⟩
      · rw [if_neg g2]
        exact ⟨_, _, _, rfl, h2, by omega⟩

theorem l03Good_vals {c : List Int} {a s : Int} (h : Src c a s) (nm : ByteArray) : ∃ x1 x2 x3 x4 x5 x6 x7 x8 a' s', spec_l03Good.f c a s nm = some (nm, x1, x2, x3, x4, x5, x6, x7, x8, a', s') ∧ Src c a' s' ∧ ∀ n ∈ nums8 x1 x2 x3 x4 x5 x6 x7 x8, 0 ≤ n ∧ n ≤ 100000 := by
  obtain ⟨y1, a1, s1, e1, h1, p1, q1, _⟩ := l01Next_some h (n := 4) (by omega)
  obtain ⟨y2, a2, s2, e2, h2, p2, q2, _⟩ := l01Next_some h1 (n := 281) (by omega)
  obtain ⟨y3, a3, s3, e3, h3, m3⟩ := l01Pick_some h2 (l := [50, 75, 100, 150, wrap64 (20 + y2)]) (by simp) (by simp)
  obtain ⟨y4, a4, s4, e4, h4, p4, q4, _⟩ := l01Next_some h3 (n := 5000) (by omega)
  obtain ⟨y5, a5, s5, e5, h5, p5, q5, _⟩ := l01Next_some h4 (n := 300) (by omega)
  obtain ⟨y6, a6, s6, e6, h6, p6, q6, _⟩ := l01Next_some h5 (n := 2000) (by omega)
  obtain ⟨y7, a7, s7, e7, h7, p7, q7, _⟩ := l01Next_some h6 (n := 4) (by omega)
  have q1 := q1 (by omega)
  have q2 := q2 (by omega)
  have q4 := q4 (by omega)
  have q5 := q5 (by omega)
  have q6 := q6 (by omega)
  have q7 := q7 (by omega)
  have w2 : wrap64 (20 + y2) = 20 + y2 := w64 (by omega) (by omega)
  have w4 : wrap64 (1000 + y4) = 1000 + y4 := w64 (by omega) (by omega)
  have w6 : wrap64 (50 + y6) = 50 + y6 := w64 (by omega) (by omega)
  have b3 : 0 ≤ y3 ∧ y3 ≤ 100000 := by
    rw [w2] at m3
    simp only [List.mem_cons, List.not_mem_nil, or_false] at m3
    omega
  unfold spec_l03Good.f
  by_cases g1 : y1 = 1
  · obtain ⟨y8, a8, s8, e8, h8, p8, q8, _⟩ := l01Next_some h7 (n := 8) (by omega)
    obtain ⟨y9, a9, s9, e9, h9, p9, q9, _⟩ := l01Next_some h8 (n := 2000) (by omega)
    have q8 := q8 (by omega)
    have q9 := q9 (by omega)
    have w8 : wrap64 (1 + y8) = 1 + y8 := w64 (by omega) (by omega)
    have w9 : wrap64 (500 + y9) = 500 + y9 := w64 (by omega) (by omega)
    have g2 : ¬ y1 = 2 := by omega
    simp only [e1, e2, e3, e4, e5, e6, e7, e8, e9, Option.bind_some, if_pos g1, if_neg g2]
    refine ⟨_, _, _, _, _, _, _, _, a9, s9, rfl, h9, ?_⟩
    intro n hn
    unfold nums8 at hn
    simp only [List.mem_cons, List.not_mem_nil, or_false] at hn
    omega
  · by_cases g2 : y1 = 2
    · simp only [e1, e2, e3, e4, e5, e6, e7, Option.bind_some, if_neg g1, if_pos g2]
      refine ⟨_, _, _, _, _, _, _, _, a7, s7, rfl, h7, ?_⟩
      intro n hn
      unfold nums8 at hn
      simp only [List.mem_cons, List.not_mem_nil, or_false] at hn
      omega
    · simp only [e1, e2, e3, e4, e5, e6, e7, Option.bind_some, if_neg g1, if_neg g2]
      refine ⟨_, _, _, _, _, _, _, _, a7, s7, rfl, h7, ?_⟩
      intro n hn
      unfold nums8 at hn
      simp only [List.mem_cons, List.not_mem_nil, or_false] at hn
      omega
theorem l03Text_vals {c : ByteArray} {a1 a2 a3 a4 a5 a6 a7 a8 : Int} (hv : ∀ n ∈ nums8 a1 a2 a3 a4 a5 a6 a7 a8, 0 ≤ n ∧ n ≤ 100000) (hc : c.size ≤ 16) : ∃ r, Ev (fun k => spec_l03Text.f k c a1 a2 a3 a4 a5 a6 a7 a8) r ∧ r.size ≤ 1000 := by
  obtain ⟨r, er, hr, hr'⟩ := spec_l01JoinS_l0 (nums8 a1 a2 a3 a4 a5 a6 a7 a8) (by simp [nums8]) (fun n hn => by have := hv n hn; omega) _ 0 ⟨#[]⟩ rfl (by have : (⟨#[]⟩ : ByteArray).size = 0 := rfl; omega)
  simp only [nums8, List.drop_zero, List.length_cons, List.length_nil] at hr'
  have z0 : (⟨#[]⟩ : ByteArray).size = 0 := rfl
  have er' : Ev (fun k => spec_l01Join.f k [a1, a2, a3, a4, a5, a6, a7, a8] ⟨#[47]⟩) r := er
  refine ⟨_, ev_pos (by omega) (er'.bind (ev_pos (by rw [ByteArray.size_append, sz_slash']; omega) (Ev.now _))), ?_⟩
  rw [ByteArray.size_append, ByteArray.size_append, sz_slash']; omega
theorem DrawArt_ev {c : List Int} (hc : Code c) : ∃ m x1 x2 x3 x4 x5 x6 x7 x8, Ev (fun k => spec_DrawArticleText.f k c) (m, x1, x2, x3, x4, x5, x6, x7, x8) ∧ m.size ≤ 17 := by
  obtain ⟨s, e, h⟩ := l01From_ev hc
  obtain ⟨m, x1, x2, x3, x4, x5, x6, x7, x8, a1, s1, e1, h1, hm⟩ := l03Draw_some h (⟨#[112, 101, 111, 110, 121]⟩ : ByteArray) (by decide)
  exact ⟨_, _, _, _, _, _, _, _, _, e.bind (ev_bind0 e1 (Ev.now _)), hm⟩
theorem DrawRead_ev {c : List Int} (hc : Code c) : ∃ t, Ev (fun k => spec_DrawReadArticle.f k c) t ∧ t.size ≤ 1000000 := by
  obtain ⟨s, e, h⟩ := l01From_ev hc
  obtain ⟨x1, x2, x3, x4, x5, x6, x7, x8, a1, s1, e1, h1, hv⟩ := l03Good_vals h (⟨#[112, 101, 111, 110, 121]⟩ : ByteArray)
  obtain ⟨t, et, ht⟩ := l03Text_vals (c := ⟨#[112, 101, 111, 110, 121]⟩) hv (by decide)
  obtain ⟨y, a2, s2, e2, h2, _⟩ := l01Next_some h1 (n := 3) (by omega)
  by_cases g : y = 0
  · obtain ⟨r, a3, s3, e3, h3, hr⟩ := l01Damage_some h2 (t := t) (by omega)
    exact ⟨r, e.bind (ev_bind0 e1 (et.bind (ev_bind0 e2 (ev_pos g (ev_bind0 e3 (Ev.now _)))))), by omega⟩
  · exact ⟨t, e.bind (ev_bind0 e1 (et.bind (ev_bind0 e2 (ev_neg g (Ev.now _))))), by omega⟩
theorem joi_nums : ∀ (ns : List Int) (w : List Int), joi 47 (w :: ns.map numL) = w ++ jrN 47 ns
  | [], w => by simp [joi, jrN]
  | n :: ns, w => by
    rw [List.map_cons, joi_cons 47 w (by simp), joi_nums ns (numL n)]
    simp [jrN]
theorem dec_no47 (n : Int) : (47 : Int) ∉ numL n := by
  intro h
  by_cases a : n < 0
  · rw [numL_neg a] at h
    rcases List.mem_cons.1 h with h | h
    · omega
    · have := dec_dig _ _ h
      unfold Dig at this; omega
  · rw [numL_pos (by omega)] at h
    have := dec_dig _ _ h
    unfold Dig at this; omega
theorem word_no47 {c : ByteArray} (h : wordL (bytesOf c) = true) : (47 : Int) ∉ bytesOf c := by
  intro hm
  unfold wordL at h
  simp only [Bool.and_eq_true, List.all_eq_true] at h
  have := h.2 47 hm
  rw [az_lo (by omega)] at this
  cases this
theorem nine {l : List ByteArray} (h : l.length = 9) : l = rdOf ByteArray.empty l 0 :: l.drop 1 := by
  cases l with
  | nil => simp at h
  | cons a t => rfl
/-- What reads as an article is the text of that article. -/
theorem read_text {s : ByteArray} {c : ByteArray} {a1 a2 a3 a4 a5 a6 a7 a8 : Int} (h : readA s = (c, a1, a2, a3, a4, a5, a6, a7, a8, 0)) : ArtB c a1 a2 a3 a4 a5 a6 a7 a8 = true ∧ bytesOf s = artL c (nums8 a1 a2 a3 a4 a5 a6 a7 a8) := by
  unfold readA at h
  split at h
  · rename_i h9
    cases e : allR readD ((splB 47 s).drop 1) with
    | none => rw [e] at h; exact absurd (congrArg (fun x : RA => x.2.2.2.2.2.2.2.2.2) h) (by show ¬ (6 : Int) = 0; decide)
    | some ns =>
      rw [e] at h
      simp only [endA] at h
      have hl := allR_len _ _ e
      rw [List.length_drop] at hl
      have hi := allR_inv (fun l n e => (readD_inv e).1) _ _ e
      by_cases g : ArtN (rdOf ByteArray.empty (splB 47 s) 0) ns = true
      · unfold finA at h
        rw [if_pos g] at h
        obtain ⟨b1, b2, b3, b4, b5, b6, b7, b8, rfl⟩ := eight (ns := ns) (by omega)
        simp only [Prod.mk.injEq] at h
        obtain ⟨h0, h1, h2, h3, h4, h5, h6, h7, h8, _⟩ := h
        have e1 : b1 = a1 := h1
        have e2 : b2 = a2 := h2
        have e3 : b3 = a3 := h3
        have e4 : b4 = a4 := h4
        have e5 : b5 = a5 := h5
        have e6 : b6 = a6 := h6
        have e7 : b7 = a7 := h7
        have e8 : b8 = a8 := h8
        subst e1 e2 e3 e4 e5 e6 e7 e8
        refine ⟨by rw [← h0]; exact g, ?_⟩
        have hj := joi_spl 47 (bytesOf s) []
        rw [List.nil_append, ← splB_bo, nine h9, List.map_cons, hi, joi_nums, h0] at hj
        exact hj.symm
      · rw [artN_fail (c := ⟨#[]⟩) _ g] at h
        exact absurd (congrArg (fun x : RA => x.2.2.2.2.2.2.2.2.2) h) (by show ¬ (6 : Int) = 0; decide)
  · exact absurd (congrArg (fun x : RA => x.2.2.2.2.2.2.2.2.2) h) (by show ¬ (6 : Int) = 0; decide)
/-- The text of an article reads as that article. -/
theorem text_read {t : ByteArray} {c : ByteArray} {a1 a2 a3 a4 a5 a6 a7 a8 : Int} (h : ArtB c a1 a2 a3 a4 a5 a6 a7 a8 = true) (ht : bytesOf t = artL c (nums8 a1 a2 a3 a4 a5 a6 a7 a8)) : readA t = (c, a1, a2, a3, a4, a5, a6, a7, a8, 0) := by
  have hw := (artB_true h).1
  obtain ⟨hv, _⟩ := art_vals h
  have hj := joi_nums (nums8 a1 a2 a3 a4 a5 a6 a7 a8) (bytesOf c)
  have hs : (splB 47 t).map bytesOf = bytesOf c :: (nums8 a1 a2 a3 a4 a5 a6 a7 a8).map numL := by
    rw [splB_bo, ht]
    unfold artL
    rw [← hj]
    refine spl_joi 47 _ (by simp) ?_
    intro w hm
    rcases List.mem_cons.1 hm with rfl | hm
    · exact word_no47 hw
    · obtain ⟨n, _, rfl⟩ := List.mem_map.1 hm
      exact dec_no47 n
  have h9 : (splB 47 t).length = 9 := by have := congrArg List.length hs; simpa [nums8] using this
  have h0 : rdOf ByteArray.empty (splB 47 t) 0 = c := by
    rw [nine h9, List.map_cons] at hs
    exact bo_inj (List.cons.inj hs).1
  have hd : ((splB 47 t).drop 1).map bytesOf = (nums8 a1 a2 a3 a4 a5 a6 a7 a8).map numL := by
    rw [nine h9, List.map_cons] at hs
    exact (List.cons.inj hs).2
  have ha := allR_some (f := readD) _ _ hd (fun n hn => readD_numL (by have := hv n hn; omega) (by have := hv n hn; omega))
  unfold readA
  rw [if_pos h9, ha]
  simp only [endA]
  unfold finA ArtN
  rw [h0]
  exact if_pos h
theorem main : laws_FnArticleTexts.Pure := by
  intro code _ _ hw
  apply Ev.rounds
  unfold laws_FnArticleTexts.f
  by_cases g : (code.length : Int) > 4096
  · exact ev_bind0 (big_true g) (ev_pos rfl (Ev.now _))
  refine ev_bind0 (big_false g) (ev_neg (by decide) ?_)
  have hc := code_of hw g
  obtain ⟨c, a1, a2, a3, a4, a5, a6, a7, a8, e1, hs⟩ := DrawArt_ev hc
  obtain ⟨s, e2, hz⟩ := DrawRead_ev hc
  obtain ⟨⟨t, b⟩, t1, t2, ht⟩ := ArticleText_both c a1 a2 a3 a4 a5 a6 a7 a8 (by omega)
  obtain ⟨r1, r2⟩ := ReadArticle_both s hz
  have i1 := impl_IsArticle_ev c a1 a2 a3 a4 a5 a6 a7 a8 (by omega)
  have hart : (ArtB c a1 a2 a3 a4 a5 a6 a7 a8 != (b == 0)) = false := by
    rcases ht with ⟨h1, h2⟩ | ⟨h1, _, h2, _⟩
    · rw [h1, (Prod.mk.inj h2).2]; rfl
    · dsimp only at h2; rw [h1, h2]; rfl
  have back : b = 0 → Ev (fun k => impl_ReadArticle.f k t) (c, a1, a2, a3, a4, a5, a6, a7, a8, 0) := by
    intro hb
    rcases ht with ⟨_, h2⟩ | ⟨h1, h2, _, h4⟩
    · rw [(Prod.mk.inj h2).2] at hb; exact absurd hb (by decide)
    · have := (ReadArticle_both t (by dsimp only at h4; omega)).1
      rwa [text_read h1 h2] at this
  have key := fun (c : ByteArray) (a1 a2 a3 a4 a5 a6 a7 a8 : Int) (h : readA s = (c, a1, a2, a3, a4, a5, a6, a7, a8, 0)) => read_text h
  generalize readA s = R at r1 r2 key
  obtain ⟨y, b1, b2, b3, b4, b5, b6, b7, b8, err⟩ := R
  refine e1.bind (t1.bind (t2.bind (e2.bind (r1.bind (r2.bind ?_)))))
  refine ev_pos rfl (ev_pos rfl (ev_pos rfl (ev_pos (by simp) (i1.bind ?_))))
  refine Ev.step (fun k => laws_FnArticleTexts.j0.eq_2 ..) (ev_neg (by dsimp only; rw [hart]; decide) ?_)
  have fin : Ev (fun k => if b = 0 then ((impl_ReadArticle.f k t).bind fun bt399 => (if bt399.2.2.2.2.2.2.2.2.2 = 0 then (some (bt399.1.toList == c.toList && (bt399.2.1 == a1 && (bt399.2.2.1 == a2 && (bt399.2.2.2.1 == a3 && (bt399.2.2.2.2.1 == a4 && (bt399.2.2.2.2.2.1 == a5 && (bt399.2.2.2.2.2.2.1 == a6 && (bt399.2.2.2.2.2.2.2.1 == a7 && (bt399.2.2.2.2.2.2.2.2.1 == a8)))))))))) else (some false))) else (some true)) true := by
    by_cases hb : b = 0
    · exact ev_pos hb ((back hb).bind (ev_pos rfl (ev_ret (by simp))))
    · exact ev_neg hb (Ev.now _)
  by_cases z : err = 0
  · subst z
    obtain ⟨k1, k2⟩ := key _ _ _ _ _ _ _ _ _ rfl
    obtain ⟨⟨u, d⟩, u1, _, hu⟩ := ArticleText_both y b1 b2 b3 b4 b5 b6 b7 b8 (by have := (art_vals k1).2; omega)
    rcases hu with ⟨h1, _⟩ | ⟨_, h2, h3, _⟩
    · rw [k1] at h1; cases h1
    · dsimp only at h2 h3
      subst h3
      have hus : u = s := bo_inj (h2.trans k2.symm)
      refine ev_pos rfl (u1.bind (ev_pos rfl (Ev.step (fun k => laws_FnArticleTexts.j1.eq_2 ..) (ev_neg ?_ fin))))
      rw [hus]; simp
  · exact ev_neg z fin

end Go.Proofs.Ytmepklccbogibaa.PureFnArticleTexts
namespace Go.Proofs.Ytmepklccbogibaa.Pure
theorem FnArticleTexts : QFnArticleTexts.laws_FnArticleTexts.Pure := PureFnArticleTexts.main
end Go.Proofs.Ytmepklccbogibaa.Pure
