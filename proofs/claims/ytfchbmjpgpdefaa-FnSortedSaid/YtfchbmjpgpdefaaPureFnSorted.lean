/- A sorted list has the same numbers in order, and sorting it again changes nothing; no condition. -/
import Derived.Test.YtfchbmjpgpdefaaMa
import Derived.Test.YtfchbmjpgpdefaaQFnSortedx
namespace Go.Proofs.Ytfchbmjpgpdefaa.PureFnSorted
open Go.RowKit Go.Proofs.Ytfchbmjpgpdefaa.QFnSorted Go.Proofs.YtfchbmjpgpdefaaW.PrintWords Go.Proofs.YtfchbmjpgpdefaaW.PrintLast Go.Proofs.Ytfchbmjpgpdefaa.Ma
set_option linter.unusedVariables false
set_option linter.unusedSimpArgs false

/-! ### division, ranges -/
theorem in_eq (a b c : Int) : spec_l01In.f a b c = some (decide (b ≤ a ∧ a ≤ c)) := by
  unfold spec_l01In.f
  by_cases h : b ≤ a <;> simp [h]
theorem within_eq (a b c : Int) : impl_within.f a b c = some (decide (b ≤ a ∧ a ≤ c)) := by
  unfold impl_within.f
  by_cases h : b ≤ a <;> simp [h]
theorem tdiv_floor {a b : Int} (hb : 0 < b) : (Int.tmod a b < 0 → Int.tdiv a b - 1 = a / b) ∧ (¬ Int.tmod a b < 0 → Int.tdiv a b = a / b) := by
  have h1 := Int.tdiv_eq_ediv (a := a) (b := b)
  have h2 := Int.tmod_eq_emod (a := a) (b := b)
  have h3 := Int.emod_nonneg a (show b ≠ 0 by omega)
  have h4 := Int.emod_lt_of_pos a hb
  by_cases h : 0 ≤ a ∨ b ∣ a
  · rw [if_pos h] at h1 h2
    omega
  · rw [if_neg h] at h1 h2
    rw [Int.sign_eq_one_of_pos hb] at h1
    omega
theorem ediv_small {a b : Int} (hb : 0 < b) (h : -4611686018427387904 ≤ a) (h' : a ≤ 4611686018427387904) : -4611686018427387904 ≤ a / b ∧ a / b ≤ 4611686018427387904 := by
  have h1 : -4611686018427387904 * b ≤ a := by
    have := Int.mul_le_mul_of_nonneg_left (show 1 ≤ b by omega) (show (0 : Int) ≤ 4611686018427387904 by omega); omega
  have h2 : a < (4611686018427387904 + 1) * b := by
    have := Int.mul_le_mul_of_nonneg_left (show 1 ≤ b by omega) (show (0 : Int) ≤ 4611686018427387905 by omega); omega
  have h3 := (Int.le_ediv_iff_mul_le hb).2 h1
  have h4 := (Int.ediv_lt_iff_lt_mul hb).2 h2
  omega
/-! ### sorting -/
theorem rd_mid (A B : List Int) (x : Int) : rd (A ++ x :: B) (A.length : Int) = x := by
  unfold rd; simp
theorem rd_last (A B : List Int) (y x : Int) : rd ((A ++ [y]) ++ x :: B) (((A ++ [y]).length : Int) - 1) = y := by
  unfold rd
  rw [show (((A ++ [y]).length : Int) - 1).toNat = A.length by simp]
  simp
theorem asc_le {A B : List Int} {y : Int} (h : Asc (A ++ y :: B)) : (∀ z ∈ A, z ≤ y) ∧ (∀ z ∈ B, y ≤ z) := by
  unfold Asc at h
  rw [List.pairwise_append, List.pairwise_cons] at h
  exact ⟨fun z hz => h.2.2 z hz y (by simp), fun z hz => h.2.1.1 z hz⟩
theorem impl_sorted_l1 (N : Int) (S C r : List Int) (x : Int) (i : Nat) (hS : Asc S) (hN : S.length + 1 + C.length ≤ 4611686018427387904) (hr : Ev (fun k => impl_sorted.l0 k (ins x S ++ C) N (wrap64 ((i : Int) + 1))) r) :
    ∀ (n : Nat) (A B : List Int), A.length = n → A ++ B = S → (∀ y, B.head? = some y → x < y) → Ev (fun k => impl_sorted.l1 k (A ++ x :: (B ++ C)) (A.length : Int) N (i : Int)) r := by
  intro n
  induction n with
  | zero =>
    intro A B hA hAB hB
    have hA : A = [] := List.length_eq_zero_iff.1 hA
    subst hA
    refine Ev.step (fun k => impl_sorted.l1.eq_2 ..) (ev_neg (by simp) ?_)
    have e : ins x S = x :: B := by
      have := ins_split x [] B (by simp) hB
      rw [← hAB]; simpa using this
    rw [e] at hr
    simpa using hr
  | succ n ih =>
    intro A B hA hAB hB
    obtain ⟨A', y, rfl⟩ : ∃ A' y, A = A' ++ [y] := ⟨A.dropLast, A.getLast (by intro h; simp [h] at hA), (List.dropLast_concat_getLast _).symm⟩
    simp only [List.length_append, List.length_singleton] at hA
    have hl : (A' ++ [y]).length = n + 1 := by simp; omega
    have hlen : ((A' ++ [y]) ++ x :: (B ++ C)).length = S.length + 1 + C.length := by rw [← hAB]; simp; omega
    have hSl : S.length = (A' ++ [y]).length + B.length := by rw [← hAB, List.length_append]
    have hnb : (n : Int) + 1 ≤ 4611686018427387904 := by omega
    have e1 : wrap64 (((A' ++ [y]).length : Int) - 1) = ((A' ++ [y]).length : Int) - 1 := w64 (by omega) (by omega)
    refine Ev.step (fun k => impl_sorted.l1.eq_2 ..) (ev_pos (by omega) ?_)
    rw [e1]
    refine ev_pos (by omega) (ev_pos (by rw [hlen]; omega) (ev_pos (by omega) (ev_pos (by rw [hlen]; omega) ?_)))
    rw [rd_last, rd_mid]
    by_cases g : y > x
    · refine ev_pos g ?_
      have e2 : (((A' ++ [y]) ++ x :: (B ++ C)).set ((A' ++ [y]).length : Int).toNat y).set (((A' ++ [y]).length : Int) - 1).toNat x = A' ++ x :: ((y :: B) ++ C) := by
        rw [show (((A' ++ [y]).length : Int) - 1).toNat = A'.length by simp, Int.toNat_natCast, List.set_append_right _ _ (by simp)]
        simp
      rw [e2]
      have e3 : ((A' ++ [y]).length : Int) - 1 = (A'.length : Int) := by simp
      rw [e3]
      exact ih A' (y :: B) (by omega) (by rw [← hAB]; simp) (by intro z hz; simp at hz; omega)
    · refine ev_neg g ?_
      have e : ins x S = (A' ++ [y]) ++ x :: B := by
        rw [← hAB]
        refine ins_split x _ B ?_ hB
        rw [← hAB] at hS
        have h1 := asc_le (A := A') (y := y) (B := B) (by simpa using hS)
        intro z hz
        rcases List.mem_append.1 hz with hz | hz
        · have := h1.1 z hz; omega
        · simp at hz; omega
      rw [e] at hr
      simpa using hr
theorem impl_sorted_l0 (l : List Int) (hl : l.length ≤ 1000000000) : ∀ (R : List Int) (i : Nat), l.drop i = R → Ev (fun k => impl_sorted.l0 k (srt (l.take i) ++ R) (l.length : Int) (i : Int)) (srt l) := by
  intro R
  induction R with
  | nil =>
    intro i h
    have := drop_nil h
    refine Ev.step (fun k => impl_sorted.l0.eq_2 ..) (ev_neg (by omega) (ev_ret ?_))
    rw [List.take_of_length_le this]; simp
  | cons c R ih =>
    intro i h
    obtain ⟨h1, h2, h3⟩ := rd_drop h
    have hs := snoc_take h
    have e := ih (i + 1) h3
    rw [hs, srt_snoc] at e
    have hlen : (srt (l.take i)).length = i := by rw [(srt_perm _).length_eq, List.length_take]; omega
    have hR : R.length + i + 1 = l.length := by have := congrArg List.length h; simp at this; omega
    refine Ev.step (fun k => impl_sorted.l0.eq_2 ..) (ev_pos (by omega) ?_)
    have := impl_sorted_l1 (l.length : Int) (srt (l.take i)) R (srt l) c i (srt_asc _) (by omega) (by rw [w64 (by omega) (by omega)]; exact e) i (srt (l.take i)) [] hlen (by simp) (by simp)
    rw [hlen] at this
    simpa using this
theorem impl_sorted_ev (l : List Int) (hl : l.length ≤ 1000000000) : Ev (fun k => impl_sorted.f k l) (srt l) := by
  have h := impl_sorted_l0 l hl l 0 rfl
  have e : impl_copyList.f l = some l := by
    unfold impl_copyList.f
    simp only [Option.bind_some, List.length_nil, Nat.zero_add, List.nil_append]
    rw [if_pos (by omega)]
  exact ev_bind0 e h
def valB (l : List Int) : Bool := decide (∀ n ∈ l, -1000000000000 ≤ n ∧ n ≤ 1000000000000)
theorem sortA_l0 (l : List Int) (hl : l.length ≤ 4611686018427387904) : ∀ (R : List Int) (i : Nat), l.drop i = R → Ev (fun k => impl_areValues.l0 k l (l.length : Int) i) (valB R) := by
  intro R
  induction R with
  | nil =>
    intro i h
    have := drop_nil h
    exact Ev.step (fun k => impl_areValues.l0.eq_2 ..) (ev_neg (by omega) (ev_ret (by simp [valB])))
  | cons n R ih =>
    intro i h
    obtain ⟨h1, h2, h3⟩ := rd_drop h
    refine Ev.step (fun k => impl_areValues.l0.eq_2 ..) (ev_pos (by omega) (ev_pos (by omega) (ev_pos (by omega) ?_)))
    rw [h2, w64 (n := (i : Int) + 1) (by omega) (by omega)]
    have e : impl_isValue.f n = some (decide (-1000000000000 ≤ n ∧ n ≤ 1000000000000)) := by unfold impl_isValue.f; rw [within_eq]; rfl
    refine ev_bind0 e ?_
    by_cases g : -1000000000000 ≤ n ∧ n ≤ 1000000000000
    · refine ev_pos (by simpa using g) ?_
      have e : valB (n :: R) = valB R := by unfold valB; refine decide_eq_decide.2 ?_; simp [g]
      rw [e]; exact ih (i + 1) h3
    · exact ev_neg (by simpa using g) (ev_ret (by symm; exact decide_eq_false (fun h => g (h n (by simp)))))
theorem sortV_l0 (l : List Int) (hl : l.length ≤ 4611686018427387904) : ∀ (R : List Int) (i : Nat), l.drop i = R → Ev (fun k => spec_l01Values.l0 k l i) (if valB R = true then (if (l.length : Int) > 60 then 3 else 0) else 2) := by
  intro R
  induction R with
  | nil =>
    intro i h
    have := drop_nil h
    refine Ev.step (fun k => spec_l01Values.l0.eq_2 ..) (ev_neg (by omega) ?_)
    have ev : valB ([] : List Int) = true := by simp [valB]
    rw [ev, if_pos rfl]
    by_cases g : (l.length : Int) > 60
    · exact ev_pos g (ev_ret (by rw [if_pos g]))
    · exact ev_neg g (ev_ret (by rw [if_neg g]))
  | cons n R ih =>
    intro i h
    obtain ⟨h1, h2, h3⟩ := rd_drop h
    refine Ev.step (fun k => spec_l01Values.l0.eq_2 ..) (ev_pos (by omega) (ev_pos (by omega) ?_))
    rw [h2, w64 (n := (i : Int) + 1) (by omega) (by omega)]
    have e : spec_l01Is.f n = some (decide (-1000000000000 ≤ n ∧ n ≤ 1000000000000)) := by unfold spec_l01Is.f; rw [in_eq]; rfl
    refine ev_bind0 e ?_
    by_cases g : -1000000000000 ≤ n ∧ n ≤ 1000000000000
    · refine ev_pos (by simpa using g) ?_
      have e : valB (n :: R) = valB R := by unfold valB; refine decide_eq_decide.2 ?_; simp [g]
      rw [e]; exact ih (i + 1) h3
    · refine ev_neg (by simpa using g) (ev_ret ?_)
      have e : valB (n :: R) = false := decide_eq_false (fun h => g (h n (by simp)))
      rw [e]; rfl
def sortT (l : List Int) : Int := if valB l = true then (if (l.length : Int) > 60 then 3 else 0) else 2
def sortM (l : List Int) : List Int := if sortT l = 0 then srt l else []
theorem sortT_zero {l : List Int} (h : sortT l = 0) : valB l = true ∧ l.length ≤ 60 := by
  unfold sortT at h
  split at h
  · split at h
    · omega
    · exact ⟨by assumption, by omega⟩
  · omega
theorem sortV_ev (l : List Int) (hl : l.length ≤ 4611686018427387904) : Ev (fun k => spec_l01Values.f k l) (sortT l) := sortV_l0 l hl l 0 rfl
theorem impl_SortNumbers_ev (l : List Int) (hl : l.length ≤ 1000000000) : Ev (fun k => impl_SortNumbers.f k l) (sortM l, sortT l) := by
  have e : Ev (fun k => impl_areValues.f k l) (valB l) := sortA_l0 l (by omega) l 0 rfl
  refine e.bind ?_
  unfold sortM sortT
  by_cases a : valB l = true
  · refine ev_pos a ?_
    by_cases b : (l.length : Int) > 60
    · exact ev_pos b (ev_ret (by rw [if_pos a, if_pos b]; rfl))
    · exact ev_neg b ((impl_sorted_ev l hl).bind (ev_ret (by rw [if_pos a, if_neg b]; rfl)))
  · exact ev_neg a (ev_ret (by rw [if_neg a]; rfl))

theorem sortS1_ev (l out r : List Int) (i : Nat) (c : Int) (hi : i < l.length) (hc : rd l (i : Int) = c) (hl : l.length ≤ 1000000000) (ho : out.length ≤ 1000000000) (hS : Asc out) (hr : Ev (fun k => sortS0 k l (ins c out) (wrap64 ((i : Int) + 1))) r) :
    ∀ (B : List Int) (n : Nat), out.drop n = B → n ≤ out.length → (∀ y ∈ out.take n, y ≤ c) → Ev (fun k => sortS1 k l out (i : Int) (n : Int)) r := by
  have tail : ∀ (n : Nat), n ≤ out.length → (∀ y ∈ out.take n, y ≤ c) → (∀ y, (out.drop n).head? = some y → c < y) → [] ++ out.take ((n : Int)).toNat ++ [rd l (i : Int)] ++ out.drop ((n : Int)).toNat = ins c out := by
    intro n hn h1 h2
    have := ins_split c (out.take n) (out.drop n) h1 h2
    rw [List.take_append_drop] at this
    rw [this, hc, Int.toNat_natCast]; simp
  intro B
  induction B with
  | nil =>
    intro n h hn h1
    have := drop_nil h
    refine Ev.step (fun k => sortS1.eq_2 ..) (ev_neg (by omega) (ev_pos ⟨by omega, by omega, by omega, by omega, by omega⟩ ?_))
    rw [tail n hn h1 (by rw [h]; simp)]
    exact hr
  | cons y B ih =>
    intro n h hn h1
    obtain ⟨g1, g2, g3⟩ := rd_drop h
    refine Ev.step (fun k => sortS1.eq_2 ..) (ev_pos (by omega) (ev_pos ⟨by omega, by omega, by omega⟩ ?_))
    rw [g2, hc]
    by_cases a : y ≤ c
    · refine ev_pos a ?_
      rw [w64 (n := (n : Int) + 1) (by omega) (by omega)]
      refine ih (n + 1) g3 (by omega) ?_
      rw [snoc_take h]
      intro z hz
      rcases List.mem_append.1 hz with hz | hz
      · exact h1 z hz
      · simp at hz; omega
    · refine ev_neg a (ev_pos ⟨by omega, by omega, by omega, by omega, by omega⟩ ?_)
      have e := tail n hn h1 (by rw [h]; intro z hz; simp at hz; omega)
      rw [hc] at e
      rw [e]
      exact hr
theorem sortS0_ev (l : List Int) (hl : l.length ≤ 1000000000) : ∀ (R : List Int) (i : Nat), l.drop i = R → i ≤ l.length → Ev (fun k => sortS0 k l (srt (l.take i)) (i : Int)) (srt l) := by
  intro R
  induction R with
  | nil =>
    intro i h hi
    have := drop_nil h
    refine Ev.step (fun k => sortS0.eq_2 ..) (ev_neg (by omega) (ev_ret ?_))
    rw [List.take_of_length_le this]
  | cons c R ih =>
    intro i h hi
    obtain ⟨h1, h2, h3⟩ := rd_drop h
    have e := ih (i + 1) h3 (by omega)
    rw [snoc_take h, srt_snoc] at e
    have hlen : (srt (l.take i)).length = i := by rw [(srt_perm _).length_eq, List.length_take]; omega
    refine Ev.step (fun k => sortS0.eq_2 ..) (ev_pos (by omega) ?_)
    exact sortS1_ev l (srt (l.take i)) (srt l) i c h1 h2 hl (by omega) (srt_asc _) (by rw [w64 (by omega) (by omega)]; exact e) _ 0 rfl (by omega) (by simp)

/-! ### words joined by commas -/
def jr : List (List Int) → List Int
  | [] => []
  | w :: ws => 44 :: (w ++ jr ws)
theorem joi_jr : ∀ (w : List Int) (ws : List (List Int)), joi 44 (w :: ws) = w ++ jr ws
  | w, [] => by simp [joi, jr]
  | w, v :: ws => by rw [joi_cons 44 w (by simp), joi_jr v ws]; rfl
def joP (i : Nat) (ws : List (List Int)) : List Int := if i = 0 then joi 44 ws else jr ws
theorem joP_nil (i : Nat) : joP i [] = [] := by unfold joP; split <;> rfl
theorem joP_zero (w : List Int) (ws : List (List Int)) : joP 0 (w :: ws) = w ++ joP 1 ws := by
  unfold joP; rw [if_pos rfl, if_neg (by omega), joi_jr]
theorem joP_succ (i : Nat) (w : List Int) (ws : List (List Int)) : joP (i + 1) (w :: ws) = 44 :: (w ++ joP (i + 2) ws) := by
  unfold joP; rw [if_neg (by omega), if_neg (by omega)]; rfl
theorem bo_comma : bytesOf (⟨#[44]⟩ : ByteArray) = [44] := rfl
theorem sz_comma : (⟨#[44]⟩ : ByteArray).size = 1 := rfl
/-! ### numbers in decimal -/
def numL (n : Int) : List Int := if n < 0 then 45 :: dec (-n).toNat else dec n.toNat
theorem numL_pos {n : Int} (h : 0 ≤ n) : numL n = dec n.toNat := by unfold numL; rw [if_neg (by omega)]
theorem numL_neg {n : Int} (h : n < 0) : numL n = 45 :: dec (-n).toNat := by unfold numL; rw [if_pos h]
theorem sz_bo {s : ByteArray} {l : List Int} (h : bytesOf s = l) : s.size = l.length := by rw [← h, bytesOf_length]
theorem byte_dig {c : Int} (h : Dig c) : byte c := by unfold Dig at h; unfold byte; omega
theorem bo_one {c : Int} (h : byte c) : bytesOf (strOfNums [c]) = [c] := bo_of _ (fun x hx => by simp only [List.mem_singleton] at hx; subst hx; exact h)
theorem bo_lit (l : List UInt8) : bytesOf ⟨l.toArray⟩ = l.map fun b => (b.toNat : Int) := rfl
theorem pow_int (k : Nat) : ((10 ^ k : Nat) : Int) = (10 : Int) ^ k := by simp
theorem dec_len_le' {n : Int} {k : Nat} (h0 : 0 ≤ n) (h : n < 10 ^ (k + 1)) : (dec n.toNat).length ≤ k + 1 := by
  refine dec_len_le k n.toNat ?_
  have := pow_int (k + 1)
  omega
/-- the byte of the last digit -/
theorem dig_byte {n : Int} (h : 0 ≤ n) : (wrap64 (48 + (Int.tmod n 10))) % 256 = 48 + n % 10 := by
  rw [Int.tmod_eq_emod_of_nonneg h, w64 (by omega) (by omega)]; omega
theorem numL_len {n : Int} (h0 : -1000000000000000000 ≤ n) (h1 : n ≤ 1000000000000000000) : (numL n).length ≤ 20 := by
  by_cases g : n < 0
  · rw [numL_neg g]
    have hl := dec_len_le' (n := -n) (k := 18) (by omega) (by omega)
    simp; omega
  · rw [numL_pos (by omega)]
    have hl := dec_len_le' (n := n) (k := 18) (by omega) (by omega)
    omega

/-! ### numbers, read -/
theorem val_take_step {v c : Int} (h : Dig c) (h0 : 0 ≤ v) (h1 : v ≤ 100000000000000000) : wrap64 ((wrap64 (10 * v)) + ((c - 48) % 256)) = 10 * v + (c - 48) := by
  unfold Dig at h
  rw [w64 (n := 10 * v) (by omega) (by omega), show (c - 48) % 256 = c - 48 by omega, w64 (by omega) (by omega)]
def foldV (v : Int) (l : List Int) : Int := l.foldl (fun a c => 10 * a + (c - 48)) v
theorem foldV_cons (v c : Int) (l : List Int) : foldV v (c :: l) = foldV (10 * v + (c - 48)) l := rfl
theorem foldV_zero (l : List Int) : foldV 0 l = val l := rfl
instance (c : Int) : Decidable (Dig c) := by unfold Dig; infer_instance
def allDig (l : List Int) : Bool := l.all fun c => decide (Dig c)
theorem allDig_iff {l : List Int} : allDig l = true ↔ ∀ c ∈ l, Dig c := by unfold allDig; simp
theorem allDig_cons {c : Int} {l : List Int} : allDig (c :: l) = (decide (Dig c) && allDig l) := rfl
theorem dig_lo {c : Int} (h : c < 48) : ¬ Dig c := by unfold Dig; omega
theorem dig_hi {c : Int} (h : c > 57) : ¬ Dig c := by unfold Dig; omega
theorem dig_in {c : Int} (h : ¬ c < 48) (h' : ¬ c > 57) : Dig c := by unfold Dig; omega
/-- what readDecimal answers -/
def readD1 (D l : List Int) : Int × Bool :=
  if D.length = 0 ∨ D.length > 18 ∨ (D.head? = some 48 ∧ (D.length > 1 ∨ l.length > 1)) then (0, false)
  else if allDig D = true then ((if D.length < l.length then -(val D) else val D), true) else (0, false)
def readD (l : List Int) : Int × Bool := if l.head? = some 45 then readD1 l.tail l else readD1 l l
theorem bt_head {s : ByteArray} (h : 0 < s.size) : (bytesOf s).head? = some (bt s 0) := by
  have hl := bytesOf_length s
  cases hb : bytesOf s with
  | nil => rw [hb] at hl; simp at hl; omega
  | cons c R =>
    obtain ⟨_, h2, _⟩ := bt_drop (i := 0) (R := R) (c := c) (s := s) (by rw [hb]; rfl)
    simp only [List.head?_cons, Option.some.injEq]
    exact h2.symm
/-- It reads just what was written. -/
theorem dec_allDig (n : Nat) : allDig (dec n) = true := allDig_iff.2 (dec_dig n)
theorem dec_head45 (n : Nat) : (dec n).head? ≠ some 45 := by
  intro h
  have : (45 : Int) ∈ dec n := List.mem_of_mem_head? h
  have := dec_dig n 45 this
  unfold Dig at this; omega
theorem dec_head48 {n : Nat} (h : (dec n).head? = some 48) : n = 0 := by
  rcases Nat.eq_zero_or_pos n with g | g
  · exact g
  · exact absurd rfl (dec_head n g 48 h)
theorem readD_numL {n : Int} (h0 : -1000000000000000000 < n) (h1 : n < 1000000000000000000) : readD (numL n) = (n, true) := by
  unfold readD
  by_cases g : n < 0
  · rw [numL_neg g]
    have hl := dec_len_le' (n := -n) (k := 17) (by omega) (by omega)
    have hp := dec_len_pos (-n).toNat
    rw [if_pos (by rfl), List.tail_cons]
    unfold readD1
    rw [if_neg (by
      rintro (h | h | ⟨h, _⟩)
      · omega
      · omega
      · have := dec_head48 h; omega), if_pos (dec_allDig _), if_pos (by simp), val_dec]
    congr 1; omega
  · rw [numL_pos (by omega)]
    have hl := dec_len_le' (n := n) (k := 17) (by omega) (by omega)
    have hp := dec_len_pos n.toNat
    rw [if_neg (dec_head45 _)]
    unfold readD1
    rw [if_neg (by
      rintro (h | h | ⟨h, h'⟩)
      · omega
      · omega
      · have e := dec_head48 h
        have : (dec n.toNat).length = 1 := by rw [e, dec_small (by omega)]; rfl
        omega), if_pos (dec_allDig _), if_neg (by omega), val_dec]
    congr 1; omega
theorem readD_inv {l : List Int} {n : Int} (h : readD l = (n, true)) : l = numL n ∧ -1000000000000000000 < n ∧ n < 1000000000000000000 := by
  unfold readD at h
  by_cases g : l.head? = some 45
  · rw [if_pos g] at h
    obtain ⟨D, rfl⟩ : ∃ D, l = 45 :: D := by
      cases l with
      | nil => simp at g
      | cons c D => simp only [List.head?_cons, Option.some.injEq] at g; subst g; exact ⟨D, rfl⟩
    simp only [List.tail_cons] at h
    unfold readD1 at h
    split at h
    · simp at h
    · rename_i h1
      split at h
      · rename_i h2
        have hD : D ≠ [] := by intro e; subst e; simp at h1
        have hd := allDig_iff.1 h2
        have h48 : D.head? ≠ some 48 := fun e => h1 (.inr (.inr ⟨e, .inr (by
          have : 1 ≤ D.length := by cases D with | nil => exact absurd rfl hD | cons => simp
          simp; omega)⟩))
        have hv := dec_val D hd hD (fun e => absurd e h48)
        have hlt := val_lt D hd
        have hpos : 1 ≤ val D := by
          rcases Int.lt_or_le (val D) 1 with q | q
          · have e0 : val D = 0 := by omega
            have := hv.1
            rw [e0] at this
            rw [← this] at h48
            exact absurd (by rw [Int.toNat_zero, dec_small (by omega)]; rfl) h48
          · exact q
        rw [if_pos (by simp)] at h
        have e : -(val D) = n := (Prod.mk.inj h).1
        have hp : (10 : Int) ^ D.length ≤ 10 ^ 18 := by
          have h18 : D.length ≤ 18 := by
            rcases Nat.lt_or_ge 18 D.length with q | q
            · exact absurd (.inr (.inl q)) h1
            · exact q
          have := Nat.pow_le_pow_right (show 0 < 10 by omega) h18
          have e1 := pow_int D.length
          have e2 := pow_int 18
          omega
        refine ⟨?_, by omega, by omega⟩
        rw [numL_neg (by omega), show -n = val D by omega, hv.1]
      · simp at h
  · rw [if_neg g] at h
    unfold readD1 at h
    split at h
    · simp at h
    · rename_i h1
      split at h
      · rename_i h2
        have hD : l ≠ [] := by intro e; subst e; simp at h1
        have hd := allDig_iff.1 h2
        have hv := dec_val l hd hD (fun e => by
          rcases Nat.lt_or_ge 1 l.length with q | q
          · exact absurd (.inr (.inr ⟨e, .inl q⟩)) h1
          · have : 1 ≤ l.length := by cases l with | nil => exact absurd rfl hD | cons => simp
            omega)
        have hlt := val_lt l hd
        rw [if_neg (by omega)] at h
        have e : val l = n := (Prod.mk.inj h).1
        have hp : (10 : Int) ^ l.length ≤ 10 ^ 18 := by
          have h18 : l.length ≤ 18 := by
            rcases Nat.lt_or_ge 18 l.length with q | q
            · exact absurd (.inr (.inl q)) h1
            · exact q
          have := Nat.pow_le_pow_right (show 0 < 10 by omega) h18
          have e1 := pow_int l.length
          have e2 := pow_int 18
          omega
        refine ⟨?_, by omega, by omega⟩
        rw [numL_pos (by omega), ← e, hv.1]
      · simp at h
theorem readD1_not {D l : List Int} (h : (readD1 D l).2 = false) : readD1 D l = (0, false) := by
  unfold readD1 at h ⊢
  split
  · rfl
  · rename_i h1
    rw [if_neg h1] at h
    split
    · rename_i h2
      rw [if_pos h2] at h; simp at h
    · rfl
theorem readD_not {l : List Int} (h : (readD l).2 = false) : readD l = (0, false) := by
  unfold readD at h ⊢
  split
  · rename_i h1
    rw [if_pos h1] at h
    exact readD1_not h
  · rename_i h1
    rw [if_neg h1] at h
    exact readD1_not h

def valueL (l : List Int) : Int × Bool := if l.length < 1 ∨ l.length > 13 then (0, false) else if allDig l = true then (val l, decide (dec (val l).toNat = l)) else (0, false)
def signedL (l : List Int) : Int × Bool := if l.head? = some 45 then (-(valueL l.tail).1, (valueL l.tail).2 && decide ((valueL l.tail).1 > 0)) else valueL l
theorem foldV_val : ∀ (l : List Int) (v : Int), foldV v l = v * 10 ^ l.length + val l
  | [], v => by simp [foldV, val]
  | c :: l, v => by
    rw [foldV_cons, foldV_val l, ← foldV_zero (c :: l), foldV_cons, foldV_val l, List.length_cons, Int.pow_succ]
    grind
theorem valueL_bound (l : List Int) : 0 ≤ (valueL l).1 ∧ (valueL l).1 < 10000000000000 := by
  unfold valueL
  split
  · simp
  · rename_i h
    split
    · rename_i h2
      have := val_lt l (allDig_iff.1 h2)
      have hp : (10 : Int) ^ l.length ≤ 10 ^ 13 := by
        have := Nat.pow_le_pow_right (show 0 < 10 by omega) (show l.length ≤ 13 by omega)
        have e1 := pow_int l.length
        have e2 := pow_int 13
        omega
      exact ⟨this.1, by show val l < _; omega⟩
    · simp
theorem valueL_dec {n : Int} (h0 : 0 ≤ n) (h1 : n < 10000000000000) : valueL (dec n.toNat) = (n, true) := by
  have hl := dec_len_le' (n := n) (k := 12) h0 (by omega)
  have hp := dec_len_pos n.toNat
  unfold valueL
  rw [if_neg (by omega), if_pos (dec_allDig _), val_dec, show ((n.toNat : Nat) : Int) = n by omega]
  simp
theorem valueL_inv {l : List Int} {n : Int} (h : valueL l = (n, true)) : l = dec n.toNat ∧ 0 ≤ n ∧ n < 10000000000000 := by
  have hb := valueL_bound l
  rw [h] at hb
  unfold valueL at h
  split at h
  · simp at h
  · split at h
    · simp only [Prod.mk.injEq, decide_eq_true_eq] at h
      rw [← h.1]
      exact ⟨h.2.symm, by have := h.1; omega, by have := h.1; omega⟩
    · simp at h
theorem signedL_num {n : Int} (h0 : -10000000000000 < n) (h1 : n < 10000000000000) : signedL (numL n) = (n, true) := by
  unfold signedL
  by_cases g : n < 0
  · rw [numL_neg g, if_pos (by rfl), List.tail_cons, valueL_dec (by omega) (by omega)]
    simp; omega
  · rw [numL_pos (by omega), if_neg (dec_head45 _), valueL_dec (by omega) (by omega)]
theorem signedL_inv {l : List Int} {n : Int} (h : signedL l = (n, true)) : l = numL n ∧ -10000000000000 < n ∧ n < 10000000000000 := by
  unfold signedL at h
  by_cases g : l.head? = some 45
  · rw [if_pos g] at h
    obtain ⟨D, rfl⟩ : ∃ D, l = 45 :: D := by
      cases l with
      | nil => simp at g
      | cons c D => simp only [List.head?_cons, Option.some.injEq] at g; subst g; exact ⟨D, rfl⟩
    simp only [List.tail_cons, Prod.mk.injEq, Bool.and_eq_true, decide_eq_true_eq] at h
    obtain ⟨h1, h2, h3⟩ := h
    have hv := valueL_inv (l := D) (n := (valueL D).1) (by rw [← h2])
    have h4 := of_decide_eq_true h3
    rw [numL_neg (show n < 0 by omega), show -n = (valueL D).1 by omega, ← hv.1]
    exact ⟨rfl, by omega, by omega⟩
  · rw [if_neg g] at h
    have hv := valueL_inv h
    rw [numL_pos hv.2.1]
    exact ⟨hv.1, by omega, by omega⟩
theorem valueL_of {l : List Int} (h : ∀ c ∈ l, Dig c) (h1 : 1 ≤ l.length) (h2 : l.length ≤ 13) (hz : l.head? = some 48 → l.length = 1) : valueL l = (val l, true) := by
  unfold valueL
  rw [if_neg (by omega), if_pos (allDig_iff.2 h), decide_eq_true (dec_val l h (by intro e; subst e; simp at h1) hz).1]

/-! ### splitting -/
def splB (b : Int) (s : ByteArray) : List ByteArray := (spl b [] (bytesOf s)).map strOfNums
theorem cur_ext (s : ByteArray) (f i : Nat) : strOfNums (((bytesOf s).take i).drop f) = s.extract f i := by
  rw [← bo_ext, of_bo]
theorem spl_len (b : Int) : ∀ (l cur : List Int), (spl b cur l).length ≤ l.length + 1
  | [], cur => by simp [spl]
  | c :: l, cur => by
    unfold spl
    split
    · have := spl_len b l []
      simp only [List.length_cons]; omega
    · have := spl_len b l (cur ++ [c])
      simp only [List.length_cons]; omega
theorem spl_byte (b : Int) : ∀ (l cur : List Int), (∀ c ∈ cur, byte c) → (∀ c ∈ l, byte c) → ∀ w ∈ spl b cur l, ∀ c ∈ w, byte c
  | [], cur, h, _, w, hw, c, hc => by
    simp only [spl, List.mem_singleton] at hw; subst hw; exact h c hc
  | d :: l, cur, h, k, w, hw, c, hc => by
    unfold spl at hw
    split at hw
    · rcases List.mem_cons.1 hw with rfl | hw
      · exact h c hc
      · exact spl_byte b l [] (by simp) (fun x hx => k x (by simp [hx])) w hw c hc
    · refine spl_byte b l _ ?_ (fun x hx => k x (by simp [hx])) w hw c hc
      intro x hx
      rcases List.mem_append.1 hx with hx | hx
      · exact h x hx
      · simp only [List.mem_singleton] at hx; subst hx; exact k x (by simp)
theorem splB_bo (b : Int) (s : ByteArray) : (splB b s).map bytesOf = spl b [] (bytesOf s) := by
  unfold splB
  rw [List.map_map]
  conv => rhs; rw [← List.map_id (spl b [] (bytesOf s))]
  apply List.map_congr_left
  intro w hw
  exact bo_of w (spl_byte b (bytesOf s) [] (by simp) (bo_byte s) w hw)
theorem splB_len (b : Int) (s : ByteArray) : (splB b s).length ≤ s.size + 1 := by
  unfold splB
  rw [List.length_map]
  have := spl_len b (bytesOf s) []
  rwa [bytesOf_length] at this
theorem spl_word_len (b : Int) : ∀ (l cur : List Int), ∀ w ∈ spl b cur l, w.length ≤ cur.length + l.length
  | [], cur, w, hw => by simp only [spl, List.mem_singleton] at hw; subst hw; simp
  | d :: l, cur, w, hw => by
    unfold spl at hw
    split at hw
    · rcases List.mem_cons.1 hw with rfl | hw
      · simp
      · have := spl_word_len b l [] w hw
        simp at this ⊢; omega
    · have := spl_word_len b l _ w hw
      simp at this ⊢; omega
theorem splB_size (b : Int) (s : ByteArray) : ∀ w ∈ splB b s, w.size ≤ s.size := by
  intro w hw
  have h1 : bytesOf w ∈ spl b [] (bytesOf s) := by rw [← splB_bo]; exact List.mem_map_of_mem hw
  have h2 := spl_word_len b (bytesOf s) [] _ h1
  rw [bytesOf_length, bytesOf_length] at h2
  simpa using h2

/-! ### lists of numbers, read -/
theorem isValue_eq (n : Int) : impl_isValue.f n = some (decide (-1000000000000 ≤ n ∧ n ≤ 1000000000000)) := by unfold impl_isValue.f; rw [within_eq]; rfl
theorem l01Is_eq (n : Int) : spec_l01Is.f n = some (decide (-1000000000000 ≤ n ∧ n ≤ 1000000000000)) := by unfold spec_l01Is.f; rw [in_eq]; rfl
/-- these words are these numbers' texts -/
def AreNums : List (List Int) → List Int → Prop
  | [], [] => True
  | w :: ws, n :: ns => w = numL n ∧ (-1000000000000 ≤ n ∧ n ≤ 1000000000000) ∧ AreNums ws ns
  | _, _ => False
theorem numL_inj {m n : Int} (hm : -1000000000000 ≤ m ∧ m ≤ 1000000000000) (hn : -1000000000000 ≤ n ∧ n ≤ 1000000000000) (h : numL m = numL n) : m = n := by
  have h1 := readD_numL (n := m) (by omega) (by omega)
  rw [h, readD_numL (n := n) (by omega) (by omega)] at h1
  exact (Prod.mk.inj h1).1.symm
theorem numL_inj' {m n : Int} (hm : -100000000000000 ≤ m ∧ m ≤ 100000000000000) (hn : -100000000000000 ≤ n ∧ n ≤ 100000000000000) (h : numL m = numL n) : m = n := by
  have h1 := readD_numL (n := m) (by omega) (by omega)
  rw [h, readD_numL (n := n) (by omega) (by omega)] at h1
  exact (Prod.mk.inj h1).1.symm
theorem map_numL_inj : ∀ (a b : List Int), (∀ n ∈ a, -100000000000000 ≤ n ∧ n ≤ 100000000000000) → (∀ n ∈ b, -100000000000000 ≤ n ∧ n ≤ 100000000000000) → a.map numL = b.map numL → a = b
  | [], [], _, _, _ => rfl
  | [], _ :: _, _, _, h => by simp at h
  | _ :: _, [], _, _, h => by simp at h
  | m :: a, n :: b, ha, hb, h => by
    rw [List.map_cons, List.map_cons, List.cons.injEq] at h
    rw [numL_inj' (ha m (by simp)) (hb n (by simp)) h.1, map_numL_inj a b (fun x hx => ha x (by simp [hx])) (fun x hx => hb x (by simp [hx])) h.2]
theorem areNums_uniq : ∀ (ws : List (List Int)) (a b : List Int), AreNums ws a → AreNums ws b → a = b
  | [], [], [], _, _ => rfl
  | w :: ws, m :: a, n :: b, ⟨h1, h2, h3⟩, ⟨k1, k2, k3⟩ => by rw [numL_inj h2 k2 (h1.symm.trans k1), areNums_uniq ws a b h3 k3]
  | [], _ :: _, _, h, _ => h.elim
  | [], [], _ :: _, _, k => k.elim
  | _ :: _, [], _, h, _ => h.elim
  | _ :: _, _ :: _, [], _, k => k.elim
theorem areNums_len : ∀ (ws : List (List Int)) (a : List Int), AreNums ws a → a.length = ws.length
  | [], [], _ => rfl
  | _ :: ws, _ :: a, ⟨_, _, h⟩ => by rw [List.length_cons, List.length_cons, areNums_len ws a h]
  | [], _ :: _, h => h.elim
  | _ :: _, [], h => h.elim
theorem areNums_val : ∀ (ws : List (List Int)) (a : List Int), AreNums ws a → ∀ n ∈ a, -1000000000000 ≤ n ∧ n ≤ 1000000000000
  | [], [], _, n, hn => by simp at hn
  | _ :: ws, m :: a, ⟨_, h1, h⟩, n, hn => by
    rcases List.mem_cons.1 hn with rfl | hn
    · exact h1
    · exact areNums_val ws a h n hn
  | [], _ :: _, h, _, _ => h.elim
  | _ :: _, [], h, _, _ => h.elim
theorem areNums_map : ∀ (a : List Int), (∀ n ∈ a, -1000000000000 ≤ n ∧ n ≤ 1000000000000) → AreNums (a.map numL) a
  | [], _ => trivial
  | n :: a, h => ⟨rfl, h n (by simp), areNums_map a (fun m hm => h m (by simp [hm]))⟩
theorem areNums_words : ∀ (ws : List (List Int)) (a : List Int), AreNums ws a → ws = a.map numL
  | [], [], _ => rfl
  | w :: ws, n :: a, ⟨h, _, k⟩ => by rw [List.map_cons, ← h, ← areNums_words ws a k]
  | [], _ :: _, h => h.elim
  | _ :: _, [], h => h.elim
/-- both answer this -/
def ReadLs (l : List Int) (r : List Int × Int) : Prop :=
  (l = [45] ∧ r = ([], 0)) ∨ (l ≠ [45] ∧ ((∃ a, (spl 44 [] l).length ≤ 60 ∧ AreNums (spl 44 [] l) a ∧ r = (a, 0)) ∨ ((∀ a, ¬ ((spl 44 [] l).length ≤ 60 ∧ AreNums (spl 44 [] l) a)) ∧ r = ([], 6))))
theorem readLs_uniq {l : List Int} {a b : List Int × Int} (h : ReadLs l a) (k : ReadLs l b) : a = b := by
  rcases h with ⟨h1, rfl⟩ | ⟨h1, h⟩ <;> rcases k with ⟨k1, rfl⟩ | ⟨k1, k⟩
  · rfl
  · exact absurd h1 k1
  · exact absurd k1 h1
  · rcases h with ⟨x, h2, h3, rfl⟩ | ⟨h2, rfl⟩ <;> rcases k with ⟨y, k2, k3, rfl⟩ | ⟨k2, rfl⟩
    · rw [areNums_uniq _ x y h3 k3]
    · exact absurd ⟨h2, h3⟩ (k2 x)
    · exact absurd ⟨k2, k3⟩ (h2 y)
    · rfl
theorem dash_iff (s : ByteArray) : s.toList = ([45] : List UInt8) ↔ bytesOf s = [45] := by
  constructor
  · intro h
    have e : s = ⟨#[45]⟩ := by
      apply toList_eq.1
      rw [h, ByteArray.toList_eq]
    rw [e]; rfl
  · intro h
    have e : s = ⟨#[45]⟩ := bo_inj (by rw [h]; rfl)
    rw [e, ByteArray.toList_eq]
def valuesM (l : List Int) : Int := if (∀ n ∈ l, -1000000000000 ≤ n ∧ n ≤ 1000000000000) then (if l.length > 60 then 3 else 0) else 2
theorem spec_l01Values_l0 (l : List Int) (hl : l.length ≤ 2000000) : ∀ (R : List Int) (i : Nat), l.drop i = R → Ev (fun k => spec_l01Values.l0 k l i) (if (∀ n ∈ R, -1000000000000 ≤ n ∧ n ≤ 1000000000000) then (if l.length > 60 then 3 else 0) else 2) := by
  intro R
  induction R with
  | nil =>
    intro i h
    have h1 := drop_nil h
    rw [if_pos (by simp)]
    refine Ev.step (fun k => spec_l01Values.l0.eq_2 ..) (ev_neg (by omega) ?_)
    by_cases a : (l.length : Int) > 60
    · have e : (if l.length > 60 then (3 : Int) else 0) = 3 := if_pos (by omega)
      rw [e]; exact ev_pos a (Ev.now _)
    · have e : (if l.length > 60 then (3 : Int) else 0) = 0 := if_neg (by omega)
      rw [e]; exact ev_neg a (Ev.now _)
  | cons n R ih =>
    intro i h
    obtain ⟨h1, h2, h3⟩ := rd_drop h
    refine Ev.step (fun k => spec_l01Values.l0.eq_2 ..) (ev_pos (by omega) (ev_pos (by omega) ?_))
    rw [h2, w64 (n := (i : Int) + 1) (by omega) (by omega)]
    refine ev_bind0 (l01Is_eq n) ?_
    by_cases a : -1000000000000 ≤ n ∧ n ≤ 1000000000000
    · refine ev_pos (by simpa using a) ?_
      have := ih (i + 1) h3
      have e : (∀ m ∈ n :: R, -1000000000000 ≤ m ∧ m ≤ 1000000000000) ↔ ∀ m ∈ R, -1000000000000 ≤ m ∧ m ≤ 1000000000000 := by simp [a]
      simp only [e]
      exact this
    · refine ev_neg (by simpa using a) ?_
      rw [if_neg (fun h => a (h n (by simp)))]
      exact Ev.now _
theorem spec_l01Values_ev (l : List Int) (hl : l.length ≤ 2000000) : Ev (fun k => spec_l01Values.f k l) (valuesM l) := spec_l01Values_l0 l hl l 0 rfl
/-! ### lists of numbers, written -/
def Vals (l : List Int) : Prop := ∀ n ∈ l, -1000000000000 ≤ n ∧ n ≤ 1000000000000
def numsL (l : List Int) : List Int := if l = [] then [45] else joi 44 (l.map numL)
/-- the answer of ListText -/
def ListT (l : List Int) (r : ByteArray × Int) : Prop := (valuesM l ≠ 0 ∧ r = (⟨#[]⟩, valuesM l)) ∨ (valuesM l = 0 ∧ bytesOf r.1 = numsL l ∧ r.2 = 0)
theorem listT_uniq {l : List Int} {a b : ByteArray × Int} (h : ListT l a) (k : ListT l b) : a = b := by
  rcases h with ⟨h1, rfl⟩ | ⟨h1, h2, h3⟩ <;> rcases k with ⟨k1, rfl⟩ | ⟨k1, k2, k3⟩
  · rfl
  · exact absurd k1 h1
  · exact absurd h1 k1
  · obtain ⟨a1, a2⟩ := a; obtain ⟨b1, b2⟩ := b
    simp only at *
    rw [h3, k3, bo_inj (h2.trans k2.symm)]
theorem vals_of {l : List Int} (h : valuesM l = 0) : Vals l ∧ l.length ≤ 60 := by
  unfold valuesM at h
  split at h
  · split at h
    · omega
    · exact ⟨by assumption, by omega⟩
  · omega
theorem valuesM_of {l : List Int} (h : Vals l) (k : l.length ≤ 60) : valuesM l = 0 := by
  unfold valuesM
  have h' : ∀ n ∈ l, -1000000000000 ≤ n ∧ n ≤ 1000000000000 := h
  rw [if_pos h', if_neg (by omega)]
theorem impl_areValues_l0 (l : List Int) (hl : l.length ≤ 4611686018427387904) : ∀ (R : List Int) (i : Nat), l.drop i = R → Ev (fun k => impl_areValues.l0 k l (l.length : Int) i) (decide (∀ n ∈ R, -1000000000000 ≤ n ∧ n ≤ 1000000000000)) := by
  intro R
  induction R with
  | nil =>
    intro i h
    have := drop_nil h
    exact Ev.step (fun k => impl_areValues.l0.eq_2 ..) (ev_neg (by omega) (ev_ret (by simp)))
  | cons n R ih =>
    intro i h
    obtain ⟨h1, h2, h3⟩ := rd_drop h
    refine Ev.step (fun k => impl_areValues.l0.eq_2 ..) (ev_pos (by omega) (ev_pos (by omega) (ev_pos (by omega) ?_)))
    rw [h2, w64 (n := (i : Int) + 1) (by omega) (by omega)]
    refine ev_bind0 (isValue_eq n) ?_
    by_cases a : -1000000000000 ≤ n ∧ n ≤ 1000000000000
    · refine ev_pos (by simpa using a) ?_
      have := ih (i + 1) h3
      have e : (∀ m ∈ n :: R, -1000000000000 ≤ m ∧ m ≤ 1000000000000) ↔ ∀ m ∈ R, -1000000000000 ≤ m ∧ m ≤ 1000000000000 := by simp [a]
      rw [decide_eq_decide.2 e]
      exact this
    · exact ev_neg (by simpa using a) (ev_ret (by symm; exact decide_eq_false (fun h => a (h n (by simp)))))
theorem impl_areValues_ev (l : List Int) (hl : l.length ≤ 4611686018427387904) : Ev (fun k => impl_areValues.f k l) (decide (∀ n ∈ l, -1000000000000 ≤ n ∧ n ≤ 1000000000000)) := impl_areValues_l0 l hl l 0 rfl
/-! #### there and back -/
theorem comma_numL (n : Int) : (44 : Int) ∉ numL n := by
  intro h
  by_cases a : n < 0
  · rw [numL_neg a] at h
    rcases List.mem_cons.1 h with h | h
    · omega
    · have := dec_dig _ _ h
      unfold Dig at this; omega
  · rw [numL_pos (by omega)] at h
    have := dec_dig _ _ h
    unfold Dig at this; omega
theorem numL_dash (n : Int) : numL n ≠ [45] := by
  intro h
  by_cases a : n < 0
  · rw [numL_neg a] at h
    exact dec_ne _ (by simpa using h)
  · rw [numL_pos (by omega)] at h
    have := dec_dig n.toNat 45 (by rw [h]; simp)
    unfold Dig at this; omega
theorem joi_dash {ws : List (List Int)} (h : ws ≠ []) (h44 : ∀ w ∈ ws, (44 : Int) ∉ w) (h45 : ∀ w ∈ ws, w ≠ [45]) : joi 44 ws ≠ [45] := by
  intro e
  have := spl_joi 44 ws h h44
  rw [e] at this
  have e2 : spl 44 [] [45] = [[45]] := by simp [spl]
  rw [e2] at this
  exact h45 [45] (by rw [← this]; simp) rfl
theorem numsL_read {s : List Int} {x : List Int} (h : ReadLs s (x, 0)) : numsL x = s ∧ Vals x ∧ x.length ≤ 60 := by
  rcases h with ⟨rfl, h⟩ | ⟨h1, ⟨a, h2, h3, h⟩ | ⟨_, h⟩⟩
  · obtain ⟨rfl, _⟩ := Prod.mk.inj h
    exact ⟨rfl, by intro n hn; simp at hn, by simp⟩
  · obtain ⟨rfl, _⟩ := Prod.mk.inj h
    have hw := areNums_words _ _ h3
    have hne : x ≠ [] := by
      rintro rfl
      exact spl_ne 44 s [] hw
    refine ⟨?_, areNums_val _ _ h3, by have := areNums_len _ _ h3; omega⟩
    unfold numsL
    rw [if_neg hne, ← hw, joi_spl]; rfl
  · have := (Prod.mk.inj h).2; omega
theorem read_numsL {l : List Int} (h : Vals l) (k : l.length ≤ 60) : ReadLs (numsL l) (l, 0) := by
  unfold numsL
  by_cases a : l = []
  · rw [if_pos a]; exact .inl ⟨rfl, by rw [a]⟩
  · rw [if_neg a]
    have hne : l.map numL ≠ [] := by simpa using a
    have h44 : ∀ w ∈ l.map numL, (44 : Int) ∉ w := by
      intro w hw
      obtain ⟨n, _, rfl⟩ := List.mem_map.1 hw
      exact comma_numL n
    have e := spl_joi 44 (l.map numL) hne h44
    refine .inr ⟨joi_dash hne h44 (fun w hw => by obtain ⟨n, _, rfl⟩ := List.mem_map.1 hw; exact numL_dash n), .inl ⟨l, ?_, ?_, rfl⟩⟩
    · rw [e, List.length_map]; exact k
    · rw [e]; exact areNums_map l h
theorem jr_len : ∀ (ws : List (List Int)), (∀ w ∈ ws, w.length ≤ 20) → (jr ws).length ≤ 21 * ws.length
  | [], _ => by simp [jr]
  | w :: ws, h => by
    have h1 := h w (by simp)
    have h2 := jr_len ws (fun v hv => h v (by simp [hv]))
    simp only [jr, List.length_cons, List.length_append]
    omega
theorem joi_len {ws : List (List Int)} (h : ∀ w ∈ ws, w.length ≤ 20) : (joi 44 ws).length ≤ 21 * ws.length := by
  cases ws with
  | nil => simp [joi]
  | cons w ws =>
    have h1 := h w (by simp)
    have h2 := jr_len ws (fun v hv => h v (by simp [hv]))
    rw [joi_jr]
    simp only [List.length_cons, List.length_append]
    omega
theorem numsL_len {l : List Int} (h : ∀ n ∈ l, -1000000000000000000 ≤ n ∧ n ≤ 1000000000000000000) : (numsL l).length ≤ 21 * l.length + 1 := by
  unfold numsL
  split
  · simp
  · have := joi_len (ws := l.map numL) (fun w hw => by obtain ⟨n, hn, rfl⟩ := List.mem_map.1 hw; exact numL_len (h n hn).1 (h n hn).2)
    rw [List.length_map] at this
    omega
theorem likeInts_l0 (l : List Int) (hl : l.length ≤ 4611686018427387904) : ∀ (R : List Int) (i : Nat), l.drop i = R → Ev (fun k => laws_likeInts.l0 k l l i) true := by
  intro R
  induction R with
  | nil =>
    intro i h
    have := drop_nil h
    exact Ev.step (fun k => laws_likeInts.l0.eq_2 ..) (ev_neg (by omega) (Ev.now _))
  | cons c R ih =>
    intro i h
    obtain ⟨h1, h2, h3⟩ := rd_drop h
    refine Ev.step (fun k => laws_likeInts.l0.eq_2 ..) (ev_pos (by omega) (ev_pos (by omega) (ev_pos (by omega) (ev_pos rfl ?_))))
    rw [w64 (n := (i : Int) + 1) (by omega) (by omega)]
    exact ih (i + 1) h3
theorem likeInts_ev (l : List Int) (hl : l.length ≤ 4611686018427387904) : Ev (fun k => laws_likeInts.f k l l) true := by
  have h := likeInts_l0 l hl l 0 rfl
  exact ev_pos rfl h
theorem readLs_len {l : List Int} {r : List Int × Int} (h : ReadLs l r) : r.1.length ≤ 60 := by
  rcases h with ⟨_, rfl⟩ | ⟨_, ⟨a, h1, h2, rfl⟩ | ⟨_, rfl⟩⟩
  · simp
  · have := areNums_len _ _ h2
    simp only; omega
  · simp
theorem readLs_or {l : List Int} {x : List Int} {n : Int} (h : ReadLs l (x, n)) : n = 0 ∨ n = 6 := by
  rcases h with ⟨_, h⟩ | ⟨_, ⟨a, _, _, h⟩ | ⟨_, h⟩⟩
  · exact .inl (Prod.mk.inj h).2
  · exact .inl (Prod.mk.inj h).2
  · exact .inr (Prod.mk.inj h).2

/-! ### numbers that follow from a code -/
def Code (c : List Int) : Prop := (∀ x ∈ c, 0 ≤ x ∧ x ≤ 255) ∧ c.length ≤ 5000
def Src (c : List Int) (a s : Int) : Prop := Code c ∧ (0 ≤ a ∧ a ≤ c.length) ∧ 0 ≤ s ∧ s < 2147483647
theorem rd_code {c : List Int} (h : Code c) {i : Int} (h0 : 0 ≤ i) (h1 : i < c.length) : 0 ≤ rd c i ∧ rd c i ≤ 255 := by
  unfold rd
  have hi : i.toNat < c.length := by omega
  rw [List.getD_eq_getElem?_getD, List.getElem?_eq_getElem hi]
  exact h.1 _ (List.getElem_mem hi)
theorem tmod_nn {a b : Int} (ha : 0 ≤ a) : Int.tmod a b = a % b := Int.tmod_eq_emod_of_nonneg ha
theorem tmod_in {a b : Int} (ha : 0 ≤ a) (hb : 0 < b) : 0 ≤ Int.tmod a b ∧ Int.tmod a b < b := by
  rw [tmod_nn ha]
  exact ⟨Int.emod_nonneg a (by omega), Int.emod_lt_of_pos a hb⟩
theorem l01Next_some {c : List Int} {a s n : Int} (h : Src c a s) (hn : n ≤ 4611686018427387904) : ∃ x a' s', spec_l01Next.f c a s n = some (x, a', s') ∧ Src c a' s' ∧ 0 ≤ x ∧ (1 ≤ n → x < n) ∧ (n ≤ 1 → x = 0) := by
  obtain ⟨hc, ⟨a0, a1⟩, s0, s1⟩ := h
  have hl := hc.2
  unfold spec_l01Next.f
  by_cases g : n ≤ 1
  · rw [if_pos g]
    exact ⟨0, a, s, rfl, ⟨hc, ⟨a0, a1⟩, s0, s1⟩, by omega, by omega, by omega⟩
  · rw [if_neg g]
    have e1 : wrap64 ((wrap64 (s * 48271)) + 29) = s * 48271 + 29 := by
      rw [w64 (n := s * 48271) (by omega) (by omega), w64 (by omega) (by omega)]
    have e2 := tmod_in (a := s * 48271 + 29) (b := 2147483647) (by omega) (by omega)
    rw [e1]
    generalize Int.tmod (s * 48271 + 29) 2147483647 = s' at *
    have e3 : wrap64 (Int.tdiv s' 31) = s' / 31 := by rw [Int.tdiv_eq_ediv_of_nonneg (by omega), w64 (by omega) (by omega)]
    rw [e3]
    by_cases g1 : a < (c.length : Int)
    · have hr := rd_code hc a0 g1
      rw [if_pos g1, if_pos a0, w64 (n := a + 1) (by omega) (by omega), w64 (n := a + 1 - 1) (by omega) (by omega), show a + 1 - 1 = a by omega, w64 (n := rd c a) (by omega) (by omega), w64 (n := s' / 31 + rd c a) (by omega) (by omega)]
      have t1 := tmod_in (a := rd c a) (b := n) (by omega) (by omega)
      have t2 := tmod_in (a := s' / 31 + rd c a) (b := n) (by omega) (by omega)
      have fin : Src c (a + 1) s' := ⟨hc, ⟨by omega, by omega⟩, e2⟩
      by_cases g2 : n ≤ 256
      · rw [if_pos g2]
        by_cases g3 : Int.tmod (a + 1) 2 = 0
        · rw [if_pos g3, if_pos a0, if_pos g1, if_neg (by omega)]
          exact ⟨_, _, _, rfl, fin, t1.1, fun _ => t1.2, by omega⟩
        · rw [if_neg g3, if_neg (by omega)]
          exact ⟨_, _, _, rfl, fin, t2.1, fun _ => t2.2, by omega⟩
      · rw [if_neg g2, if_neg (by omega)]
        exact ⟨_, _, _, rfl, fin, t2.1, fun _ => t2.2, by omega⟩
    · have t2 := tmod_in (a := s' / 31) (b := n) (by omega) (by omega)
      rw [if_neg g1, if_neg (by omega)]
      exact ⟨_, _, _, rfl, ⟨hc, ⟨a0, a1⟩, e2⟩, t2.1, fun _ => t2.2, by omega⟩
theorem l01Pick_some {c : List Int} {a s : Int} (h : Src c a s) {l : List Int} (hl : 1 ≤ l.length) (hl' : l.length ≤ 1000) : ∃ x a' s', spec_l01Pick.f c a s l = some (x, a', s') ∧ Src c a' s' ∧ x ∈ l := by
  obtain ⟨x, a', s', e, h', x0, x1, _⟩ := l01Next_some h (n := (l.length : Int)) (by omega)
  have x2 := x1 (by omega)
  unfold spec_l01Pick.f
  rw [e, Option.bind_some, if_pos x0, if_pos x2]
  refine ⟨_, _, _, rfl, h', ?_⟩
  unfold rd
  have hi : x.toNat < l.length := by omega
  rw [List.getD_eq_getElem?_getD, List.getElem?_eq_getElem hi]
  exact List.getElem_mem hi
theorem l01From_l0 {c : List Int} (hc : Code c) : ∀ (d : Nat) (i : Int) (s : Int), 64 - i = d → 0 ≤ i → 0 ≤ s → s < 2147483647 → ∃ s', Ev (fun k => spec_l01From.l0 k c i c 0 s) (c, 0, s') ∧ Src c 0 s' := by
  intro d
  have hl := hc.2
  induction d with
  | zero =>
    intro i s hd h0 s0 s1
    refine ⟨s, Ev.step (fun k => spec_l01From.l0.eq_2 ..) ?_, hc, ⟨by omega, by omega⟩, s0, s1⟩
    by_cases g : i < (c.length : Int)
    · exact ev_pos g (ev_neg (by omega) (Ev.now _))
    · exact ev_neg g (Ev.now _)
  | succ d ih =>
    intro i s hd h0 s0 s1
    by_cases g : i < (c.length : Int)
    · have hr := rd_code hc h0 g
      have e1 : wrap64 ((wrap64 (s * 83)) + (wrap64 (rd c i))) = s * 83 + rd c i := by
        rw [w64 (n := s * 83) (by omega) (by omega), w64 (n := rd c i) (by omega) (by omega), w64 (by omega) (by omega)]
      have e2 := tmod_in (a := s * 83 + rd c i) (b := 2147483647) (by omega) (by omega)
      obtain ⟨s', hs, h⟩ := ih (i + 1) (Int.tmod (s * 83 + rd c i) 2147483647) (by omega) (by omega) e2.1 e2.2
      refine ⟨s', Ev.step (fun k => spec_l01From.l0.eq_2 ..) (ev_pos g (ev_pos (by omega) (ev_pos h0 ?_))), h⟩
      rw [e1, w64 (by omega) (by omega)]
      exact hs
    · exact ⟨s, Ev.step (fun k => spec_l01From.l0.eq_2 ..) (ev_neg g (Ev.now _)), hc, ⟨by omega, by omega⟩, s0, s1⟩
theorem l01From_ev {c : List Int} (hc : Code c) : ∃ s, Ev (fun k => spec_l01From.f k c) (c, 0, s) ∧ Src c 0 s :=
  l01From_l0 hc 64 0 61043 (by omega) (by omega) (by omega) (by omega)
/-! ### dice -/
def Dice (c : List Int) (i h : Int) : Prop := Code c ∧ (0 ≤ i ∧ i ≤ c.length) ∧ 0 ≤ h ∧ h ≤ 18446744073709551615
theorem u64w (n : Int) : 0 ≤ IntKind.u64.wrap n ∧ IntKind.u64.wrap n ≤ 18446744073709551615 := by
  have e : IntKind.u64.wrap n = n % 18446744073709551616 := by rfl
  omega
theorem big_false {c : List Int} (h : ¬ (c.length : Int) > 4096) : laws_big.f c = some false := by unfold laws_big.f; simp; omega
theorem big_true {c : List Int} (h : (c.length : Int) > 4096) : laws_big.f c = some true := by unfold laws_big.f; simp; omega
theorem code_of {c : List Int} (h : ∀ x ∈ c, (Lit.int .u8 x).wf = true) (hl : ¬ (c.length : Int) > 4096) : Code c := ⟨fun x hx => bd8 (h x hx), by omega⟩

theorem l01DrawValue_some {c : List Int} {a s : Int} (h : Src c a s) : ∃ x a' s', spec_l01DrawValue.f c a s = some (x, a', s') ∧ Src c a' s' := by
  obtain ⟨x0, a0, s0, e0, h0, _⟩ := l01Next_some h (n := 10) (by omega)
  unfold spec_l01DrawValue.f
  rw [e0, Option.bind_some]
  by_cases g : x0 = 0
  · obtain ⟨x1, a1, s1, e1, h1, _⟩ := l01Pick_some h0 (l := [0, 1000000000000, 1000000000001, (-1000000000000), (-1000000000001), 1]) (by simp) (by simp)
    rw [if_pos g, e1]
    exact ⟨_, _, _, rfl, h1⟩
  · obtain ⟨x1, a1, s1, e1, h1, _⟩ := l01Next_some h0 (n := 41) (by omega)
    obtain ⟨x2, a2, s2, e2, h2, _⟩ := l01Next_some h1 (n := 2001) (by omega)
    obtain ⟨x3, a3, s3, e3, h3, _⟩ := l01Next_some h2 (n := 2000000001) (by omega)
    obtain ⟨x4, a4, s4, e4, h4, _⟩ := l01Pick_some h3 (l := [wrap64 (x1 - 20), wrap64 (x2 - 1000), wrap64 (x3 - 1000000000)]) (by simp) (by simp)
    rw [if_neg g]
    simp only [e1, e2, e3, e4, Option.bind_some]
    exact ⟨_, _, _, rfl, h4⟩
theorem l01DrawList_l0 {c : List Int} : ∀ (d : Nat) (out : List Int) (a s : Int), Src c a s → out.length + d ≤ 100 → ∃ x a' s', Ev (fun k => spec_l01DrawList.l0 k out (d : Int) c a s) (x, a', s') ∧ Src c a' s' ∧ x.length ≤ 100 := by
  intro d
  induction d with
  | zero =>
    intro out a s h ho
    obtain ⟨x0, a0, s0, e0, h0, _⟩ := l01Next_some h (n := 24) (by omega)
    by_cases g : x0 = 0
    · obtain ⟨x1, a1, s1, e1, h1, b1, c1, _⟩ := l01Next_some h0 (n := 2) (by omega)
      have c1 := c1 (by omega)
      refine ⟨List.replicate (60 + x1).toNat 0, a1, s1, Ev.step (fun k => spec_l01DrawList.l0.eq_2 ..) (ev_neg (by omega) (ev_bind0 e0 (ev_pos g (ev_bind0 e1 ?_)))), h1, by rw [List.length_replicate]; omega⟩
      dsimp only
      rw [w64 (n := 60 + x1) (by omega) (by omega)]
      exact ev_pos (by omega) (ev_pos (by omega) (Ev.now _))
    · exact ⟨_, _, _, Ev.step (fun k => spec_l01DrawList.l0.eq_2 ..) (ev_neg (by omega) (ev_bind0 e0 (ev_neg g (Ev.now _)))), h0, by omega⟩
  | succ d ih =>
    intro out a s h ho
    obtain ⟨x0, a0, s0, e0, h0, _⟩ := l01Next_some h (n := 200) (by omega)
    obtain ⟨x1, a1, s1, e1, h1⟩ := l01DrawValue_some h0
    obtain ⟨x2, a2, s2, e2, h2, _⟩ := l01Pick_some h1 (l := [wrap64 (x0 - 100), x1]) (by simp) (by simp)
    obtain ⟨x, a', s', e, h', hx⟩ := ih (out ++ [x2]) a2 s2 h2 (by simp; omega)
    refine ⟨x, a', s', Ev.step (fun k => spec_l01DrawList.l0.eq_2 ..) (ev_pos (by omega) (ev_bind0 e0 (ev_bind0 e1 (ev_bind0 e2 (ev_pos (by omega) ?_))))), h', hx⟩
    rw [w64 (by omega) (by omega), show ((d + 1 : Nat) : Int) - 1 = (d : Int) by omega]
    exact e
theorem l01DrawList_ev {c : List Int} {a s : Int} (h : Src c a s) : ∃ x a' s', Ev (fun k => spec_l01DrawList.f k c a s) (x, a', s') ∧ Src c a' s' ∧ x.length ≤ 100 := by
  obtain ⟨x0, a0, s0, e0, h0, b0, c0, _⟩ := l01Next_some h (n := 6) (by omega)
  have c0 := c0 (by omega)
  obtain ⟨x, a', s', e, h', hx⟩ := l01DrawList_l0 x0.toNat [] a0 s0 h0 (by simp; omega)
  refine ⟨x, a', s', ev_bind0 e0 ?_, h', hx⟩
  dsimp only
  rw [show x0 = ((x0.toNat : Nat) : Int) by omega]
  exact e

theorem pick12 {d : ByteArray} {l : List ByteArray} {x : Int} (h0 : 0 ≤ x) (h1 : x < l.length) : rdOf d l x ∈ l := by
  have hx : x.toNat < l.length := by omega
  unfold rdOf
  rw [List.getD_eq_getElem?_getD, List.getElem?_eq_getElem hx]
  exact List.getElem_mem hx
theorem l01Good_some {c : List Int} {a s : Int} (h : Src c a s) : ∃ x a' s', spec_l01Good.f c a s = some (x, a', s') ∧ Src c a' s' ∧ x.size ≤ 17 := by
  obtain ⟨x0, a0, s0, e0, h0, b0, c0, _⟩ := l01Next_some h (n := 12) (by omega)
  have c0 := c0 (by omega)
  unfold spec_l01Good.f
  rw [Option.bind_some, e0, Option.bind_some, if_pos b0, if_pos (by simpa using c0)]
  refine ⟨_, _, _, rfl, h0, ?_⟩
  have := pick12 (d := ByteArray.empty) (l := [(⟨#[97, 100, 97]⟩ : ByteArray), (⟨#[98, 114, 117, 110, 111]⟩ : ByteArray), (⟨#[99, 108, 97, 114, 97]⟩ : ByteArray), (⟨#[100, 111, 114, 97]⟩ : ByteArray), (⟨#[101, 109, 105, 108]⟩ : ByteArray), (⟨#[102, 114, 105, 100, 97]⟩ : ByteArray), (⟨#[103, 117, 115, 116, 97, 118]⟩ : ByteArray), (⟨#[104, 97, 110, 110, 97]⟩ : ByteArray), (⟨#[105, 118, 97, 110]⟩ : ByteArray), (⟨#[106, 97, 110, 97]⟩ : ByteArray), (⟨#[107, 97, 114, 108]⟩ : ByteArray), (⟨#[108, 101, 110, 97]⟩ : ByteArray)]) b0 (by simpa using c0)
  revert this
  generalize rdOf _ _ _ = w
  intro hw
  simp only [List.mem_cons, List.not_mem_nil, or_false] at hw
  rcases hw with rfl | rfl | rfl | rfl | rfl | rfl | rfl | rfl | rfl | rfl | rfl | rfl <;> decide
theorem l01DrawWord_some {c : List Int} {a s : Int} (h : Src c a s) : ∃ x a' s', spec_l01DrawWord.f c a s = some (x, a', s') ∧ Src c a' s' ∧ x.size ≤ 17 := by
  obtain ⟨x0, a0, s0, e0, h0, _⟩ := l01Next_some h (n := 24) (by omega)
  unfold spec_l01DrawWord.f
  rw [e0, Option.bind_some]
  by_cases g : x0 = 0
  · obtain ⟨x1, a1, s1, e1, h1, b1, c1, _⟩ := l01Next_some h0 (n := 6) (by omega)
    have c1 := c1 (by omega)
    rw [if_pos g, Option.bind_some, e1, Option.bind_some, if_pos b1, if_pos (by simpa using c1)]
    refine ⟨_, _, _, rfl, h1, ?_⟩
    have := pick12 (d := ByteArray.empty) (l := [(⟨#[]⟩ : ByteArray), (⟨#[65, 100, 97]⟩ : ByteArray), (⟨#[97, 49]⟩ : ByteArray), (⟨#[97, 98, 99, 100, 101, 102, 103, 104, 105, 106, 107, 108, 109, 110, 111, 112]⟩ : ByteArray), (⟨#[97, 98, 99, 100, 101, 102, 103, 104, 105, 106, 107, 108, 109, 110, 111, 112, 113]⟩ : ByteArray), (⟨#[97, 32, 98]⟩ : ByteArray)]) b1 (by simpa using c1)
    revert this
    generalize rdOf _ _ _ = w
    intro hw
    simp only [List.mem_cons, List.not_mem_nil, or_false] at hw
    rcases hw with rfl | rfl | rfl | rfl | rfl | rfl <;> decide
  · obtain ⟨x1, a1, s1, e1, h1, hx⟩ := l01Good_some h0
    rw [if_neg g, e1]
    exact ⟨_, _, _, rfl, h1, hx⟩
/-! ### IsWord -/
def az (c : Int) : Bool := decide (97 ≤ c) && decide (c ≤ 122)
def wordL (l : List Int) : Bool := decide (1 ≤ l.length) && decide (l.length ≤ 16) && l.all az
theorem az_lo {c : Int} (h : c < 97) : az c = false := by unfold az; simp; omega
theorem az_hi {c : Int} (h : c > 122) : az c = false := by unfold az; simp; omega
theorem az_in {c : Int} (h : ¬ c < 97) (h' : ¬ c > 122) : az c = true := by unfold az; simp; omega
theorem spec_l01In_eq (a b c : Int) : spec_l01In.f a b c = some (decide (b ≤ a) && decide (a ≤ c)) := by
  unfold spec_l01In.f
  by_cases h : b ≤ a <;> simp [h]
theorem spec_IsWord_l0 (s : ByteArray) (hs : s.size ≤ 4611686018427387904) : ∀ (R : List Int) (i : Nat), (bytesOf s).drop i = R → i ≤ s.size → Ev (fun k => spec_IsWord.l0 k s i) (R.all az && (decide (1 ≤ (s.size : Int)) && decide ((s.size : Int) ≤ 16))) := by
  intro R
  induction R with
  | nil =>
    intro i h hi
    have := bo_drop_nil h
    refine Ev.step (fun k => spec_IsWord.l0.eq_2 ..) ?_
    refine ev_neg (by omega) (ev_bind0 (spec_l01In_eq ..) (ev_ret ?_))
    simp
  | cons c R ih =>
    intro i h hi
    obtain ⟨h1, h2, h3⟩ := bt_drop h
    refine Ev.step (fun k => spec_IsWord.l0.eq_2 ..) ?_
    refine ev_pos (by omega) (ev_pos (by omega) ?_)
    rw [h2, w64 (by omega) (by omega)]
    by_cases a : c < 97
    · exact ev_pos a (ev_ret (by simp [az_lo a]))
    · refine ev_neg a ?_
      by_cases b : c > 122
      · exact ev_pos b (ev_ret (by simp [az_hi b]))
      · refine ev_neg b ?_
        have := ih (i + 1) h3 (by omega)
        rw [List.all_cons, az_in a b, Bool.true_and]
        exact this
theorem spec_IsWord_ev (s : ByteArray) (hs : s.size ≤ 4611686018427387904) : Ev (fun k => spec_IsWord.f k s) (wordL (bytesOf s)) := by
  have h := spec_IsWord_l0 s hs (bytesOf s) 0 rfl (by omega)
  unfold spec_IsWord.f
  have e : wordL (bytesOf s) = ((bytesOf s).all az && (decide (1 ≤ (s.size : Int)) && decide ((s.size : Int) ≤ 16))) := by
    unfold wordL; rw [bytesOf_length, Bool.and_comm]
    congr 2 <;> exact decide_eq_decide.2 (by omega)
  rw [e]; exact h

theorem impl_IsWord_l0 (s : ByteArray) (hs : s.size ≤ 4611686018427387904) : ∀ (R : List Int) (i : Nat), (bytesOf s).drop i = R → i ≤ s.size → Ev (fun k => impl_IsWord.l0 k s i) (R.all az) := by
  intro R
  induction R with
  | nil =>
    intro i h hi
    have := bo_drop_nil h
    refine Ev.step (fun k => impl_IsWord.l0.eq_2 ..) ?_
    exact ev_neg (by omega) (ev_ret rfl)
  | cons c R ih =>
    intro i h hi
    obtain ⟨h1, h2, h3⟩ := bt_drop h
    refine Ev.step (fun k => impl_IsWord.l0.eq_2 ..) ?_
    refine ev_pos (by omega) (ev_pos (by omega) ?_)
    rw [h2, w64 (by omega) (by omega)]
    by_cases a : c < 97
    · exact ev_pos a (ev_ret (by simp [az_lo a]))
    · refine ev_neg a ?_
      by_cases b : c > 122
      · exact ev_pos b (ev_ret (by simp [az_hi b]))
      · refine ev_neg b ?_
        have := ih (i + 1) h3 (by omega)
        rw [List.all_cons, az_in a b, Bool.true_and]
        exact this
theorem impl_IsWord_ev (s : ByteArray) (hs : s.size ≤ 4611686018427387904) : Ev (fun k => impl_IsWord.f k s) (wordL (bytesOf s)) := by
  have h := impl_IsWord_l0 s hs (bytesOf s) 0 rfl (by omega)
  have hb := bytesOf_length s
  unfold impl_IsWord.f wordL
  by_cases a : (s.size : Int) < 1
  · refine ev_pos a (Ev.step (fun k => impl_IsWord.j0.eq_2 ..) (ev_pos rfl (ev_ret ?_)))
    simp; omega
  · refine ev_neg a (Ev.step (fun k => impl_IsWord.j0.eq_2 ..) ?_)
    by_cases b : (s.size : Int) > 16
    · refine ev_pos (by simpa using b) (ev_ret ?_)
      simp; omega
    · refine ev_neg (by simpa using b) ?_
      have e : (decide (1 ≤ (bytesOf s).length) && decide ((bytesOf s).length ≤ 16) && (bytesOf s).all az) = (bytesOf s).all az := by
        simp; intro _; omega
      rw [e]; exact h

theorem spec_SortNumbers_ev (l : List Int) (hl : l.length ≤ 1000000000) : Ev (fun k => spec_SortNumbers.f k l) (sortM l, sortT l) := by
  refine (sortV_ev l (by omega)).bind ?_
  unfold sortM
  by_cases e : sortT l = 0
  · refine ev_pos e ?_
    have h : Ev (fun k => sortS0 k l [] 0) (srt l) := sortS0_ev l hl l 0 rfl (by omega)
    exact h.bind (ev_ret (by rw [if_pos e, e]))
  · exact ev_neg e (ev_ret (by rw [if_neg e]))
theorem DrawSort_ev {c : List Int} (hc : Code c) : ∃ x, Ev (fun k => spec_DrawSortNumbers.f k c) x ∧ x.length ≤ 100 := by
  obtain ⟨s, e, h⟩ := l01From_ev hc
  obtain ⟨x, a', s', e1, h1, hx⟩ := l01DrawList_ev h
  exact ⟨x, e.bind (e1.bind (Ev.now _)), hx⟩
theorem DrawWord_ev {c : List Int} (hc : Code c) : ∃ x, Ev (fun k => spec_DrawIsWord.f k c) x ∧ x.size ≤ 17 := by
  obtain ⟨s, e, h⟩ := l01From_ev hc
  obtain ⟨x, a', s', e1, h1, hx⟩ := l01DrawWord_some h
  exact ⟨x, e.bind (ev_bind0 e1 (Ev.now _)), hx⟩
theorem sum_l0 (l : List Int) (hl : l.length ≤ 1000) (hv : ∀ n ∈ l, -1000000000000 ≤ n ∧ n ≤ 1000000000000) : ∀ (R : List Int) (i : Nat) (x : Int), l.drop i = R → -1000000000000 * (i : Int) ≤ x → x ≤ 1000000000000 * (i : Int) → Ev (fun k => laws_sum.l0 k l x i) (x + R.sum) := by
  intro R
  induction R with
  | nil =>
    intro i x h h0 h1
    have := drop_nil h
    exact Ev.step (fun k => laws_sum.l0.eq_2 ..) (ev_neg (by omega) (ev_ret (by simp)))
  | cons c R ih =>
    intro i x h h0 h1
    obtain ⟨g1, g2, g3⟩ := rd_drop h
    obtain ⟨_, g4, _⟩ := drop_cons h
    have hc := hv c (List.mem_of_getElem? g4)
    have e := ih (i + 1) (x + c) g3 (by omega) (by omega)
    refine Ev.step (fun k => laws_sum.l0.eq_2 ..) (ev_pos (by omega) (ev_pos (by omega) ?_))
    rw [g2, w64 (n := x + c) (by omega) (by omega), w64 (n := (i : Int) + 1) (by omega) (by omega), List.sum_cons, ← Int.add_assoc]
    exact e
theorem sum_ev (l : List Int) (hl : l.length ≤ 1000) (hv : ∀ n ∈ l, -1000000000000 ≤ n ∧ n ≤ 1000000000000) : Ev (fun k => laws_sum.f k l) l.sum := by
  have h := sum_l0 l hl hv l 0 0 rfl (by omega) (by omega)
  rw [Int.zero_add] at h
  exact h
theorem hasInt_l0 (l : List Int) (hl : l.length ≤ 1000000000) (v : Int) : ∀ (R : List Int) (i : Nat), l.drop i = R → v ∈ R → Ev (fun k => laws_hasInt.l0 k l v i) true := by
  intro R
  induction R with
  | nil => intro i h hv; simp at hv
  | cons c R ih =>
    intro i h hv
    obtain ⟨g1, g2, g3⟩ := rd_drop h
    refine Ev.step (fun k => laws_hasInt.l0.eq_2 ..) (ev_pos (by omega) (ev_pos (by omega) ?_))
    rw [g2, w64 (n := (i : Int) + 1) (by omega) (by omega)]
    by_cases e : c = v
    · exact ev_pos e (Ev.now _)
    · refine ev_neg e (ih (i + 1) g3 ?_)
      rcases List.mem_cons.1 hv with h | h
      · exact absurd h.symm e
      · exact h
theorem fn_l1 (x s : List Int) (hx : x.length ≤ 60) (hv : valB x = true) (hs : s = srt x) : ∀ (R : List Int) (i : Nat), x.drop i = R → Ev (fun k => laws_FnSorted.l1 k x s i) true := by
  have hb : ∀ n ∈ x, -1000000000000 ≤ n ∧ n ≤ 1000000000000 := of_decide_eq_true hv
  have hp : s.Perm x := by rw [hs]; exact srt_perm x
  have hsl : s.length = x.length := hp.length_eq
  intro R
  induction R with
  | nil =>
    intro i h
    have := drop_nil h
    have hv' : valB s = true := decide_eq_true (fun n hn => hb n (hp.mem_iff.1 hn))
    have ht : sortT s = 0 := by unfold sortT; rw [if_pos hv', if_neg (by omega)]
    have hm : sortM s = s := by unfold sortM; rw [if_pos ht, hs]; exact srt_of_asc (srt_asc x)
    have e := impl_SortNumbers_ev s (by omega)
    rw [hm, ht] at e
    refine Ev.step (fun k => laws_FnSorted.l1.eq_2 ..) (ev_neg (by omega) (e.bind (ev_pos rfl ((likeInts_ev s (by omega)).bind (ev_pos rfl ((sum_ev s (by omega) (fun n hn => hb n (hp.mem_iff.1 hn))).bind ((sum_ev x (by omega) hb).bind (ev_ret ?_))))))))
    rw [sum_perm hp]; simp
  | cons c R ih =>
    intro i h
    obtain ⟨g1, g2, g3⟩ := rd_drop h
    obtain ⟨_, g4, _⟩ := drop_cons h
    have e : Ev (fun k => laws_hasInt.f k s c) true := hasInt_l0 s (by omega) c s 0 rfl (hp.mem_iff.2 (List.mem_of_getElem? g4))
    refine Ev.step (fun k => laws_FnSorted.l1.eq_2 ..) (ev_pos (by omega) (ev_pos (by omega) ?_))
    rw [g2, w64 (n := (i : Int) + 1) (by omega) (by omega)]
    exact e.bind (ev_pos rfl (ih (i + 1) g3))
theorem asc_rd {s : List Int} (h : Asc s) {i : Nat} (h0 : 1 ≤ i) (h1 : i < s.length) : rd s ((i : Int) - 1) ≤ rd s (i : Int) := by
  unfold Asc at h
  have := List.pairwise_iff_getElem.1 h (i - 1) i (by omega) h1 (by omega)
  unfold rd
  rw [show ((i : Int) - 1).toNat = i - 1 by omega, Int.toNat_natCast, List.getD_eq_getElem?_getD, List.getD_eq_getElem?_getD, List.getElem?_eq_getElem (by omega), List.getElem?_eq_getElem h1]
  exact this
theorem fn_l0 (x s : List Int) (hx : x.length ≤ 60) (hv : valB x = true) (hs : s = srt x) : ∀ (d i : Nat), s.length + 1 - i = d → 1 ≤ i → Ev (fun k => laws_FnSorted.l0 k x s i) true := by
  have hsl : s.length = x.length := by rw [hs]; exact (srt_perm x).length_eq
  intro d
  induction d with
  | zero =>
    intro i hd h0
    exact Ev.step (fun k => laws_FnSorted.l0.eq_2 ..) (ev_neg (by omega) (fn_l1 x s hx hv hs x 0 rfl))
  | succ d ih =>
    intro i hd h0
    by_cases g : i < s.length
    · refine Ev.step (fun k => laws_FnSorted.l0.eq_2 ..) (ev_pos (by omega) (ev_pos (by omega) ?_))
      rw [w64 (n := (i : Int) - 1) (by omega) (by omega), w64 (n := (i : Int) + 1) (by omega) (by omega)]
      have := asc_rd (s := s) (by rw [hs]; exact srt_asc x) h0 g
      exact ev_pos (by omega) (ev_pos (by omega) (ev_neg (by omega) (ih (i + 1) (by omega) (by omega))))
    · exact Ev.step (fun k => laws_FnSorted.l0.eq_2 ..) (ev_neg (by omega) (fn_l1 x s hx hv hs x 0 rfl))
theorem main : laws_FnSorted.Pure := by
  intro c _ _ hw
  apply Ev.rounds
  unfold laws_FnSorted.f
  by_cases g : (c.length : Int) > 4096
  · exact ev_bind0 (big_true g) (ev_pos rfl (Ev.now _))
  refine ev_bind0 (big_false g) (ev_neg (by decide) ?_)
  have hc := code_of hw g
  obtain ⟨x, ex, hx⟩ := DrawSort_ev hc
  obtain ⟨s, es, hs⟩ := DrawWord_ev hc
  have i1 := impl_SortNumbers_ev x (by omega)
  have i2 := spec_SortNumbers_ev x (by omega)
  have w1 := impl_IsWord_ev s (by omega)
  have w2 := spec_IsWord_ev s (by omega)
  have hml : (sortM x).length ≤ 100 := by
    unfold sortM
    split
    · rw [(srt_perm _).length_eq]; exact hx
    · simp
  refine ex.bind (i1.bind (i2.bind (es.bind (ev_pos rfl ((likeInts_ev (sortM x) (by omega)).bind (ev_pos rfl (w1.bind (w2.bind ?_))))))))
  refine Ev.step (fun k => laws_FnSorted.j0.eq_2 ..) (ev_neg (by simp) ?_)
  by_cases e : sortT x = 0
  · obtain ⟨hv, hl⟩ := sortT_zero e
    refine ev_pos e ?_
    have hm : sortM x = srt x := by unfold sortM; rw [if_pos e]
    rw [hm]
    exact fn_l0 x (srt x) hl hv rfl _ 1 rfl (by omega)
  · exact ev_neg e (Ev.now _)

end Go.Proofs.Ytfchbmjpgpdefaa.PureFnSorted
namespace Go.Proofs.Ytfchbmjpgpdefaa.Pure
theorem FnSorted : QFnSorted.laws_FnSorted.Pure := PureFnSorted.main
end Go.Proofs.Ytfchbmjpgpdefaa.Pure
