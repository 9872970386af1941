/- ShotWindows answers what the reference's answers, for all arguments; no condition. -/
import Derived.Test.YtmepklccbogibaaMa
import Derived.Test.YtmepklccbogibaaQFnExactShotWindowsx
namespace Go.Proofs.Ytmepklccbogibaa.GoFnExactShotWindows
open Go.RowKit Go.Proofs.Ytmepklccbogibaa.QFnExactShotWindows Go.Proofs.YtmepklccbogibaaW.PrintWords Go.Proofs.YtmepklccbogibaaW.PrintLast Go.Proofs.Ytmepklccbogibaa.Ma
set_option linter.unusedVariables false
set_option linter.unusedSimpArgs false

/-! ### division, ranges -/
theorem in_eq (a b c : Int) : spec_l01In.f a b c = some (decide (b ≤ a ∧ a ≤ c)) := by
  unfold spec_l01In.f
  by_cases h : b ≤ a <;> simp [h]
theorem within_eq (a b c : Int) : impl_within.f a b c = some (decide (b ≤ a ∧ a ≤ c)) := by
  unfold impl_within.f
  by_cases h : b ≤ a <;> simp [h]
theorem tdiv_floor {a b : Int} (hb : 0 < b) : (Int.tmod a b < 0 → Int.tdiv a b - 1 = a / b) ∧ (¬ Int.tmod a b < 0 → Int.tdiv a b = a / b) := by
  have h1 := Int.tdiv_eq_ediv (a := a) (b := b)
  have h2 := Int.tmod_eq_emod (a := a) (b := b)
  have h3 := Int.emod_nonneg a (show b ≠ 0 by omega)
  have h4 := Int.emod_lt_of_pos a hb
  by_cases h : 0 ≤ a ∨ b ∣ a
  · rw [if_pos h] at h1 h2
    omega
  · rw [if_neg h] at h1 h2
    rw [Int.sign_eq_one_of_pos hb] at h1
    omega
theorem ediv_small {a b : Int} (hb : 0 < b) (h : -4611686018427387904 ≤ a) (h' : a ≤ 4611686018427387904) : -4611686018427387904 ≤ a / b ∧ a / b ≤ 4611686018427387904 := by
  have h1 : -4611686018427387904 * b ≤ a := by
    have := Int.mul_le_mul_of_nonneg_left (show 1 ≤ b by omega) (show (0 : Int) ≤ 4611686018427387904 by omega); omega
  have h2 : a < (4611686018427387904 + 1) * b := by
    have := Int.mul_le_mul_of_nonneg_left (show 1 ≤ b by omega) (show (0 : Int) ≤ 4611686018427387905 by omega); omega
  have h3 := (Int.le_ediv_iff_mul_le hb).2 h1
  have h4 := (Int.ediv_lt_iff_lt_mul hb).2 h2
  omega
/-! ### IsWord -/
def az (c : Int) : Bool := decide (97 ≤ c) && decide (c ≤ 122)
def wordL (l : List Int) : Bool := decide (1 ≤ l.length) && decide (l.length ≤ 16) && l.all az
theorem az_lo {c : Int} (h : c < 97) : az c = false := by unfold az; simp; omega
theorem az_hi {c : Int} (h : c > 122) : az c = false := by unfold az; simp; omega
theorem az_in {c : Int} (h : ¬ c < 97) (h' : ¬ c > 122) : az c = true := by unfold az; simp; omega
theorem spec_l01In_eq (a b c : Int) : spec_l01In.f a b c = some (decide (b ≤ a) && decide (a ≤ c)) := by
  unfold spec_l01In.f
  by_cases h : b ≤ a <;> simp [h]
theorem spec_IsWord_l0 (s : ByteArray) (hs : s.size ≤ 4611686018427387904) : ∀ (R : List Int) (i : Nat), (bytesOf s).drop i = R → i ≤ s.size → Ev (fun k => spec_IsWord.l0 k s i) (R.all az && (decide (1 ≤ (s.size : Int)) && decide ((s.size : Int) ≤ 16))) := by
  intro R
  induction R with
  | nil =>
    intro i h hi
    have := bo_drop_nil h
    refine Ev.step (fun k => spec_IsWord.l0.eq_2 ..) ?_
    refine ev_neg (by omega) (ev_bind0 (spec_l01In_eq ..) (ev_ret ?_))
    simp
  | cons c R ih =>
    intro i h hi
    obtain ⟨h1, h2, h3⟩ := bt_drop h
    refine Ev.step (fun k => spec_IsWord.l0.eq_2 ..) ?_
    refine ev_pos (by omega) (ev_pos (by omega) ?_)
    rw [h2, w64 (by omega) (by omega)]
    by_cases a : c < 97
    · exact ev_pos a (ev_ret (by simp [az_lo a]))
    · refine ev_neg a ?_
      by_cases b : c > 122
      · exact ev_pos b (ev_ret (by simp [az_hi b]))
      · refine ev_neg b ?_
        have := ih (i + 1) h3 (by omega)
        rw [List.all_cons, az_in a b, Bool.true_and]
        exact this
theorem spec_IsWord_ev (s : ByteArray) (hs : s.size ≤ 4611686018427387904) : Ev (fun k => spec_IsWord.f k s) (wordL (bytesOf s)) := by
  have h := spec_IsWord_l0 s hs (bytesOf s) 0 rfl (by omega)
  unfold spec_IsWord.f
  have e : wordL (bytesOf s) = ((bytesOf s).all az && (decide (1 ≤ (s.size : Int)) && decide ((s.size : Int) ≤ 16))) := by
    unfold wordL; rw [bytesOf_length, Bool.and_comm]
    congr 2 <;> exact decide_eq_decide.2 (by omega)
  rw [e]; exact h

theorem impl_IsWord_l0 (s : ByteArray) (hs : s.size ≤ 4611686018427387904) : ∀ (R : List Int) (i : Nat), (bytesOf s).drop i = R → i ≤ s.size → Ev (fun k => impl_IsWord.l0 k s i) (R.all az) := by
  intro R
  induction R with
  | nil =>
    intro i h hi
    have := bo_drop_nil h
    refine Ev.step (fun k => impl_IsWord.l0.eq_2 ..) ?_
    exact ev_neg (by omega) (ev_ret rfl)
  | cons c R ih =>
    intro i h hi
    obtain ⟨h1, h2, h3⟩ := bt_drop h
    refine Ev.step (fun k => impl_IsWord.l0.eq_2 ..) ?_
    refine ev_pos (by omega) (ev_pos (by omega) ?_)
    rw [h2, w64 (by omega) (by omega)]
    by_cases a : c < 97
    · exact ev_pos a (ev_ret (by simp [az_lo a]))
    · refine ev_neg a ?_
      by_cases b : c > 122
      · exact ev_pos b (ev_ret (by simp [az_hi b]))
      · refine ev_neg b ?_
        have := ih (i + 1) h3 (by omega)
        rw [List.all_cons, az_in a b, Bool.true_and]
        exact this
theorem impl_IsWord_ev (s : ByteArray) (hs : s.size ≤ 4611686018427387904) : Ev (fun k => impl_IsWord.f k s) (wordL (bytesOf s)) := by
  have h := impl_IsWord_l0 s hs (bytesOf s) 0 rfl (by omega)
  have hb := bytesOf_length s
  unfold impl_IsWord.f wordL
  by_cases a : (s.size : Int) < 1
  · refine ev_pos a (Ev.step (fun k => impl_IsWord.j0.eq_2 ..) (ev_pos rfl (ev_ret ?_)))
    simp; omega
  · refine ev_neg a (Ev.step (fun k => impl_IsWord.j0.eq_2 ..) ?_)
    by_cases b : (s.size : Int) > 16
    · refine ev_pos (by simpa using b) (ev_ret ?_)
      simp; omega
    · refine ev_neg (by simpa using b) ?_
      have e : (decide (1 ≤ (bytesOf s).length) && decide ((bytesOf s).length ≤ 16) && (bytesOf s).all az) = (bytesOf s).all az := by
        simp; intro _; omega
      rw [e]; exact h

/-! ### articles -/
theorem maxLen_eq : maxLen ≤ 9223372036854775807 := by unfold maxLen; decide
def ArtB (c : ByteArray) (kind cal lift spread shots gap net group : Int) : Bool :=
  wordL (bytesOf c) && decide (0 ≤ kind ∧ kind ≤ 3) && decide (20 ≤ cal ∧ cal ≤ 300) && decide (0 ≤ lift ∧ lift ≤ 10000) && decide (0 ≤ spread ∧ spread ≤ lift) &&
    decide (1 ≤ shots ∧ shots ≤ 50) && decide (0 ≤ gap ∧ gap ≤ 10000) && decide (1 ≤ net ∧ net ≤ 100000) && decide (0 ≤ group ∧ group ≤ 3)
theorem artB_true {c : ByteArray} {kind cal lift spread shots gap net group : Int} (h : ArtB c kind cal lift spread shots gap net group = true) :
    wordL (bytesOf c) = true ∧ (0 ≤ kind ∧ kind ≤ 3) ∧ (20 ≤ cal ∧ cal ≤ 300) ∧ (0 ≤ lift ∧ lift ≤ 10000) ∧ (0 ≤ spread ∧ spread ≤ lift) ∧ (1 ≤ shots ∧ shots ≤ 50) ∧ (0 ≤ gap ∧ gap ≤ 10000) ∧ (1 ≤ net ∧ net ≤ 100000) ∧ (0 ≤ group ∧ group ≤ 3) := by
  unfold ArtB at h
  simp only [Bool.and_eq_true, decide_eq_true_eq] at h
  obtain ⟨⟨⟨⟨⟨⟨⟨⟨h1, h2⟩, h3⟩, h4⟩, h5⟩, h6⟩, h7⟩, h8⟩, h9⟩ := h
  exact ⟨h1, h2, h3, h4, h5, h6, h7, h8, h9⟩
theorem impl_IsArticle_ev (c : ByteArray) (kind cal lift spread shots gap net group : Int) (hs : c.size ≤ 4611686018427387904) :
    Ev (fun k => impl_IsArticle.f k c kind cal lift spread shots gap net group) (ArtB c kind cal lift spread shots gap net group) := by
  unfold impl_IsArticle.f ArtB
  refine (impl_IsWord_ev c hs).bind ?_
  simp only [within_eq, Option.bind_some]
  by_cases h1 : wordL (bytesOf c) = true
  · refine ev_pos h1 ?_
    simp only [h1, Bool.true_and]
    refine ev_const ?_
    simp only [decide_eq_true_eq]
    repeat' split
    all_goals first | (simp_all; done) | (simp_all; intros; omega)
  · exact ev_neg h1 (ev_ret (by simp [h1]))
theorem spec_IsArticle_ev (c : ByteArray) (kind cal lift spread shots gap net group : Int) (hs : c.size ≤ 4611686018427387904) :
    Ev (fun k => spec_IsArticle.f k c kind cal lift spread shots gap net group) (ArtB c kind cal lift spread shots gap net group) := by
  unfold spec_IsArticle.f ArtB
  refine (spec_IsWord_ev c hs).bind ?_
  simp only [in_eq, Option.bind_some]
  by_cases h1 : wordL (bytesOf c) = true
  · refine ev_pos h1 ?_
    simp only [h1, Bool.true_and]
    refine ev_const ?_
    simp only [decide_eq_true_eq]
    repeat' split
    all_goals first | (simp_all; done) | (simp_all; intros; omega)
  · exact ev_neg h1 (ev_ret (by simp [h1]))
def lenM (c : ByteArray) (kind cal lift spread shots gap net group : Int) : Int × Int :=
  if ArtB c kind cal lift spread shots gap net group = true then (lift + spread + (shots - 1) * gap, 0) else (0, 1)
theorem gap_bound {shots gap : Int} (h : 1 ≤ shots ∧ shots ≤ 50) (k : 0 ≤ gap ∧ gap ≤ 10000) : 0 ≤ (shots - 1) * gap ∧ (shots - 1) * gap ≤ 490000 := by
  constructor
  · exact Int.mul_nonneg (by omega) k.1
  · have h1 := Int.mul_le_mul_of_nonneg_right (show shots - 1 ≤ 49 by omega) k.1
    omega
theorem sz_big {c : ByteArray} (kind cal lift spread shots gap net group : Int) (h : c.size ≤ maxLen) (h2 : 1000000 < c.size) : ∃ t, laws_szArticle.f c kind cal lift spread shots gap net group 1000000 = some t ∧ t < 0 := by
  have hm := maxLen_eq
  unfold laws_szArticle.f
  rw [w64 (by omega) (by omega), if_pos (by omega)]
  exact ⟨_, rfl, by omega⟩
theorem sz_small {c : ByteArray} (kind cal lift spread shots gap net group : Int) (h2 : c.size ≤ 1000000) : ∃ t, laws_szArticle.f c kind cal lift spread shots gap net group 1000000 = some t ∧ ¬ t < 0 := by
  unfold laws_szArticle.f
  rw [w64 (by omega) (by omega), if_neg (by omega)]
  exact ⟨_, rfl, by omega⟩

/-! ### lists marked and held -/
theorem set_mid {α : Type} (P R : List α) (c m : α) : (P ++ c :: R).set P.length m = P ++ m :: R := by
  rw [List.set_append_right _ _ (by omega)]; simp
theorem drop_mid {α : Type} (P R : List α) : (P ++ R).drop P.length = R := by simp
def mkI (m : Int) : Nat → List Int
  | 0 => []
  | n + 1 => m :: mkI (m + 1) n
theorem mkI_len : ∀ (n : Nat) (m : Int), (mkI m n).length = n
  | 0, _ => rfl
  | n + 1, m => by simp [mkI, mkI_len n]
theorem eqInt64S_l0 (l : List Int) (hl : l.length ≤ 4611686018427387904) : ∀ (R : List Int) (i : Nat), l.drop i = R → Ev (fun k => laws_eqInt64S.l0 k l l i) true := by
  intro R
  induction R with
  | nil =>
    intro i h
    have := drop_nil h
    exact Ev.step (fun k => laws_eqInt64S.l0.eq_2 ..) (ev_neg (by omega) (Ev.now _))
  | cons c R ih =>
    intro i h
    obtain ⟨h1, h2, h3⟩ := rd_drop h
    refine Ev.step (fun k => laws_eqInt64S.l0.eq_2 ..) (ev_pos (by omega) (ev_pos (by omega) (ev_pos (by omega) (ev_pos rfl ?_))))
    rw [w64 (n := (i : Int) + 1) (by omega) (by omega)]
    exact ih (i + 1) h3
theorem eqInt64S_ev (l : List Int) (hl : l.length ≤ 4611686018427387904) : Ev (fun k => laws_eqInt64S.f k l l) true := by
  have h := eqInt64S_l0 l hl l 0 rfl
  exact ev_pos rfl h
theorem markInt64S_l0 : ∀ (R P : List Int) (m : Int), 0 ≤ m → m + R.length ≤ 4611686018427387904 → P.length + R.length ≤ 4611686018427387904 →
    Ev (fun k => laws_markInt64S.l0 k (P ++ R) m P.length) (m + R.length, P ++ mkI m R.length) := by
  intro R
  induction R with
  | nil =>
    intro P m h0 h1 h2
    refine Ev.step (fun k => laws_markInt64S.l0.eq_2 ..) (ev_neg (by simp) (ev_ret ?_))
    simp [mkI]
  | cons c R ih =>
    intro P m h0 h1 h2
    simp only [List.length_cons] at h1 h2
    refine Ev.step (fun k => laws_markInt64S.l0.eq_2 ..) (ev_pos (by simp; omega) (ev_pos (by omega) ?_))
    have := ih (P ++ [m]) (m + 1) (by omega) (by omega) (by simp; omega)
    rw [w64 (n := m + 1) (by omega) (by omega), w64 (n := (P.length : Int) + 1) (by omega) (by omega), Int.toNat_natCast, set_mid]
    simp only [List.length_append, List.length_singleton, List.append_assoc, List.singleton_append] at this
    rw [show m + ((c :: R).length : Int) = m + 1 + (R.length : Int) by simp; omega]
    exact this
theorem markInt64S_ev (l : List Int) {m : Int} (h0 : 0 ≤ m) (h1 : m + l.length ≤ 4611686018427387904) : Ev (fun k => laws_markInt64S.f k l m) (m + l.length, mkI m l.length) := by
  have := markInt64S_l0 l [] m h0 h1 (by simp; omega)
  have h : Ev (fun k => laws_markInt64S.l0 k l m 0) (m + l.length, mkI m l.length) := by simpa using this
  exact h
theorem heldInt64S_l0 : ∀ (n : Nat) (P : List Int) (m : Int), 0 ≤ m → m + n ≤ 4611686018427387904 → P.length + n ≤ 4611686018427387904 →
    Ev (fun k => laws_heldInt64S.l0 k (P ++ mkI m n) m P.length) (m + n) := by
  intro n
  induction n with
  | zero =>
    intro P m h0 h1 h2
    exact Ev.step (fun k => laws_heldInt64S.l0.eq_2 ..) (ev_neg (by simp [mkI]) (ev_ret (by simp)))
  | succ n ih =>
    intro P m h0 h1 h2
    obtain ⟨k1, k2, k3⟩ := rd_drop (L := P ++ mkI m (n + 1)) (i := P.length) (drop_mid P _)
    refine Ev.step (fun k => laws_heldInt64S.l0.eq_2 ..) (ev_pos (by omega) (ev_pos (by omega) (ev_pos k2 ?_)))
    have := ih (P ++ [m]) (m + 1) (by omega) (by omega) (by simp; omega)
    rw [w64 (n := m + 1) (by omega) (by omega), w64 (n := (P.length : Int) + 1) (by omega) (by omega)]
    simp only [List.length_append, List.length_singleton, List.append_assoc, List.singleton_append] at this
    rw [show m + ((n + 1 : Nat) : Int) = m + 1 + (n : Int) by omega]
    exact this
theorem heldInt64S_ev {n : Nat} {m : Int} (h0 : 0 ≤ m) (h1 : m + n ≤ 4611686018427387904) : Ev (fun k => laws_heldInt64S.f k (mkI m n) m) (m + n) := by
  have := heldInt64S_l0 n [] m h0 h1 (by simp; omega)
  have h : Ev (fun k => laws_heldInt64S.l0 k (mkI m n) m 0) (m + n) := by simpa using this
  exact h
/-! #### the same of strings -/
theorem maxLen_eq2 : maxLen ≤ 9223372036854775807 := by unfold maxLen; decide
/-! ### rows marked -/
theorem lendS {e g n cap base : Nat} {W : World} {ok : Nat → Prop} {xs : List (List Int)} (h : Kd.S (Kd.slice 2 (Kd.int .i64)) e W base ok (.slice (some ⟨g, 0, none⟩) n cap) xs) (i : Int) (h0 : 0 ≤ i) (h1 : i < n) :
    ∃ A c, W.cell? ⟨g, i.toNat, none⟩ = some (.slice A (rd_L1 xs i).length c) ∧ Kd.R (Kd.int .i64) 2 W base (fun k_ => some k_ = (.slice A (rd_L1 xs i).length c : Value).ownBlock) (.slice A (rd_L1 xs i).length c) (rd_L1 xs i) ∧
      ∀ {w1 : World} {x' : List Int} {ok' : Nat → Prop}, Kept W w1 (fun k_ => some k_ = (.slice A (rd_L1 xs i).length c : Value).ownBlock) → Kd.R (Kd.int .i64) 2 w1 base ok' (.slice A (rd_L1 xs i).length c) x' → Kd.S (Kd.slice 2 (Kd.int .i64)) e w1 base ok (.slice (some ⟨g, 0, none⟩) n cap) (xs.set i.toNat x') := by
  obtain ⟨oki, c, hcl, hM, hcc, hoki, hH⟩ := Kd.S_lend h ([] : List Int) i h0 h1
  obtain ⟨v, rfl, hR⟩ := hM
  obtain ⟨A, cc, rfl⟩ := Kd.R_slice hR
  refine ⟨A, cc, ?_, Kd.R_tight rfl hR, fun {w1 x' ok'} hk hR' => ?_⟩
  · have z := hcc 0 _ rfl
    rwa [show i.toNat * (Kd.slice 2 (Kd.int .i64)).sz + 0 = i.toNat from by show i.toNat * 1 + 0 = _; omega] at z
  · exact Kd.H_back (okp := oki) (Kd.H_kept hH hk (fun k _ hn hs => hn (hR.1 k hs.symm))) ⟨_, rfl, Kd.R_reok rfl hR' (fun k hk => hR.1 k hk)⟩ (fun _ h => h)
def mSS : Nat → List (List Int) → Int → Int → Option (Int × List (List Int))
  | 0, _, _, _ => none
  | k + 1, x0, x1, x5 => if x5 < (x0.length : Int) then (if 0 ≤ x5 then ((laws_markInt64S.f k (rd_L1 x0 x5) x1).bind fun bt => mSS k (x0.set x5.toNat bt.2) bt.1 (wrap64 (x5 + 1))) else none) else some (x1, x0)
set_option maxHeartbeats 8000000 in
set_option maxRecDepth 100000 in
theorem mark_calls (k : Nat) (ok : Nat → Prop) (u : Value) (l : List (List Int)) (a1 r1 : Int) (r2 : List (List Int)) (w0 w : World) (hB : Below w0.heap.size w0 w) (ho : Kd.S (Kd.slice 2 (Kd.int .i64)) 40 w w0.heap.size ok u l) (h : mSS k l a1 0 = some (r1, r2)) :
    Calls Try.prog 42 #[u, .int .i64 a1] w fun e w' => e = .returned (.int .i64 r1) ∧ Kd.S (Kd.slice 2 (Kd.int .i64)) 40 w' w0.heap.size ok u r2 ∧ Below w0.heap.size w0 w' := by
  have HO_0 := Aside0.mk ho
  have HB := Aside0.mk hB
  clear hB ho
  have H' := Aside0.mk h
  clear h
  go_enter Try.func42, Try.ntmps42
  go_wp2
  go_loopg [1, 5] k (fun kq v1 v5 w' => ∃ (x0_1 : List (List Int)) (x1_1 x5_1 : Int), v1 = .int .i64 x1_1 ∧ v5 = .int .i64 x5_1 ∧ Aside0 (mSS kq x0_1 x1_1 x5_1 = some (r1, r2)) ∧ Aside0 (kq ≤ k) ∧ Aside0 (Kd.S (Kd.slice 2 (Kd.int .i64)) 40 w' w0.heap.size ok u x0_1) ∧ Aside0 (Below w0.heap.size w0 w'))
  case atStart => exact ⟨l, a1, 0, (by first | rfl | (simp; done) | (simp [*]; done)), (by first | rfl | (simp; done) | (simp [*]; done)), H', ⟨Nat.le_refl _⟩, ⟨by (with_reducible repeat (first | apply Kd.S_alloc | apply Kd.S_drewN | apply Kd.S_drew)); exact HO_0.out⟩, ⟨by repeat (first | (with_reducible first | exact HB.out | apply pw_below_drewN | apply below_drew1) | exact HB.out)⟩⟩
  case round =>
    clear H'
    try clear p2
    obtain ⟨x0_1, x1_1, x5_1, rfl, rfl, HA, HK1, HO_0, HB⟩ := hrel
    cases gk with
    | zero => exact absurd HA.out (by simp [mSS])
    | succ k1 =>
      have H := HA.out
      clear HA
      simp only [mSS] at H
      by_cases c3 : x5_1 < (x0_1.length : Int)
      · rw [if_pos c3] at H
        have c3b0 : decide (x5_1 < (x0_1.length : Int)) = true := decide_eq_true c3
        by_cases c4 : 0 ≤ x5_1
        · rw [if_pos c4] at H
          have c4b0 : decide (0 ≤ x5_1) = true := decide_eq_true c4
          replace H := Option.bind_eq_some_iff.mp H
          obtain ⟨⟨t1, t2⟩, A50, H⟩ := H
          replace H : mSS k1 (x0_1.set x5_1.toNat t2) t1 (wrap64 (x5_1 + 1)) = some (r1, r2) := H
          have A5 := Aside0.mk A50
          clear A50
          have H' := Aside0.mk H
          clear H
          have p5 : 0 ≤ (x5_1 : Int) := c4
          have q5 : (x5_1 : Int) < (x0_1.length : Int) := c3
          clear c3 c4
          obtain ⟨go5, co5, eo5, gb5, gl5, cl5, HG5⟩ := Kd.S_form HO_0.out (by omega)
          (first | cases eo5 | subst eo5)
          clear gb5 gl5 HG5
          obtain ⟨Ar, cr, hx5_0, hR, hback⟩ := lendS HO_0.out x5_1 p5 q5
          have HRr := Aside0.mk hR
          clear hR
          replace p5 := eq_true p5
          replace q5 := eq_true q5
          go_wp2_with (first | ((with_reducible refine gate_callee (f := 37) rfl ?_); refine goesL_ (some 17) rfl rfl Try.func37 (by kernel_rfl) rfl #[.slice Ar (rd_L1 x0_1 x5_1).length cr, .int .i64 x1_1] rfl (by (try simp only [List.map_toArray, List.map_cons, List.map_nil]); first | done | rfl | (simp only [List.length_drop, List.length_take]; rfl) | (go_simp; done) | (simp; done) | (simp; rfl)) ?_; (with_reducible refine (laws_markInt64S.calls k1 (fun k_ => some k_ = (.slice Ar (rd_L1 x0_1 x5_1).length cr : Value).ownBlock) (.slice Ar (rd_L1 x0_1 x5_1).length cr) (rd_L1 x0_1 x5_1) x1_1 t1 t2 w0 _ ?side1 ?side2 A5.out).mono ?_); (case side1 => repeat (first | (with_reducible first | exact HB.out | apply pw_below_drewN | apply below_drew1) | exact HB.out)); (case side2 => (with_reducible repeat (first | apply Kd.R_alloc | apply Kd.R_drewN | apply Kd.R_drew)); exact HRr.out); rintro e w2 ⟨rfl, hR2, hb2, hkp⟩; refine ⟨_, rfl, ?_⟩; have n0_ := Aside0.mk (hback hkp hR2); have n1_ := Aside0.mk hb2; clear HO_0 HB HRr hback hkp hR2 hb2; have HO_0 := n0_; have HB := n1_; clear n0_ n1_))
          go_roundg k1
          case measure => have := HK1.out; omega
          case rel => exact ⟨x0_1.set x5_1.toNat t2, t1, (wrap64 (x5_1 + 1)), (by first | rfl | (simp; done) | (simp [*]; done)), (by first | rfl | (simp; done) | (simp [*]; done)), H', ⟨by have := HK1.out; omega⟩, ⟨by (with_reducible repeat (first | apply Kd.S_alloc | apply Kd.S_drewN | apply Kd.S_drew)); exact HO_0.out⟩, ⟨by repeat (first | (with_reducible first | exact HB.out | apply pw_below_drewN | apply below_drew1) | exact HB.out)⟩⟩
        · rw [if_neg c4] at H
          exact absurd H (by simp)
      · rw [if_neg c3] at H
        have c3b0 : decide (x5_1 < (x0_1.length : Int)) = false := decide_eq_false c3
        clear c3
        simp only [Option.some.injEq, Prod.mk.injEq] at H
        obtain ⟨rfl, rfl⟩ := H
        obtain ⟨Ao9, co9, eo9⟩ := Kd.S_slice HO_0.out
        subst eo9
        go_wp2
        go_ret
        exact ⟨by first | rfl | (simp; done) | (simp [*]; done), by (with_reducible repeat (first | apply Kd.S_alloc | apply Kd.S_drewN | apply Kd.S_drew)); exact HO_0.out, by repeat (first | (with_reducible first | exact HB.out | apply pw_below_drewN | apply below_drew1) | exact HB.out)⟩
theorem mark_at {w0 w : World} (k : Nat) (u : Value) (l : List (List Int)) (a1 r1 : Int) (r2 : List (List Int)) (hB : Below w0.heap.size w0 w) (ho : Kd.S (Kd.slice 2 (Kd.int .i64)) 40 w w0.heap.size (fun _ => True) u l) (h : mSS k l a1 0 = some (r1, r2)) :
    Calls Try.prog 42 #[u, .int .i64 a1] w fun e w' => e = .returned (.int .i64 r1) ∧ Kd.S (Kd.slice 2 (Kd.int .i64)) 40 w' w0.heap.size (fun _ => True) u r2 ∧ Below w0.heap.size w0 w' := mark_calls k _ u l a1 r1 r2 w0 w hB ho h
theorem drawn_below {w w' : World} (h : Drawn0 w w') : Below w.heap.size w w' := by
  obtain ⟨n, rfl⟩ := h
  exact pw_below_drewN (Below.refl _ _) n
theorem at_S {α : Type} {d : Kd α} {e b B : Nat} {ok : Nat → Prop} {w w1 : World} {v : Value} {xs : List α} (_ : Below B w w1) (h : Kd.S d e w b ok v xs) : Kd.S d e w b ok v xs := h
theorem at_B {B : Nat} {w0 w w1 : World} (_ : Below B w w1) (h : Below w0.heap.size w0 w) : Below w0.heap.size w0 w := h
theorem at_K {B g : Nat} {o : Obj} {w w1 : World} (_ : Below B w w1) (h : w.heap[g]? = some o) : w.heap[g]? = some o := h
set_option maxHeartbeats 16000000 in
set_option maxRecDepth 100000 in
theorem go (k : Nat) (c : ByteArray) (a1 a2 a3 a4 a5 a6 a7 a8 lit : Int) (sz t km : Int) (r Mg : List (List Int)) (w : World)
    (hsz : laws_szArticle.f c a1 a2 a3 a4 a5 a6 a7 a8 1000000 = some sz) (hsz0 : ¬ sz < 0) (hspec : spec_ShotWindows.f k c a1 a2 a3 a4 a5 a6 a7 a8 lit = some (r, t)) (himp : impl_ShotWindows.f k c a1 a2 a3 a4 a5 a6 a7 a8 lit = some (r, t)) (heqr : laws_eqInt64SS.f k r r = some true)
    (hm : mSS k r 101 0 = some (km, Mg)) (hkm : 0 ≤ km) (hMl : Mg.length = r.length) (hhe : laws_heldInt64SS.f k Mg 101 = some km) :
    Calls Try.prog 8 #[.agg #[.string c, .int .i64 a1, .int .i64 a2, .int .i64 a3, .int .i64 a4, .int .i64 a5, .int .i64 a6, .int .i64 a7, .int .i64 a8], .int .i64 lit] w fun e w' => e = .returned (.bool true) ∧ Below w.heap.size w w' := by
  have hu23 := Try.underlying23
  have HB := Aside0.mk (Below.refl w.heap.size w)
  have c1b0 : decide (sz < 0) = false := decide_eq_false hsz0
  have hto : laws_toArticle.f c a1 a2 a3 a4 a5 a6 a7 a8 = some (c, a1, a2, a3, a4, a5, a6, a7, a8) := rfl
  have c3b0 : decide (km < 0) = false := decide_eq_false (by omega)
  have qt0 : (t == t) = true := by simp
  have qt1 : (t != t) = false := by simp
  have qm0 : (km == km) = true := by simp
  have qm1 : (km != km) = false := by simp
  have hheld : ∀ (A : Option Addr) (c : Nat) (w : World), Kd.C (Kd.slice 2 (Kd.int .i64)) w A Mg.length Mg → Mg.length ≤ c → Calls Try.prog 43 #[.slice A r.length c, .int .i64 101] w fun e w' => e = .returned (.int .i64 km) ∧ Drawn0 w w' := by
    intro A c w h1 h2
    rw [← hMl]
    exact laws_heldInt64SS.calls k A c Mg 101 km w h1 h2 hhe
  clear hsz0 hkm hhe
  go_enter Try.func8, Try.ntmps8
  go_wp2_with (first | ((with_reducible refine gate_dst (N := 2) rfl ?_); refine box_event ?hg (N := 2) ?hd (cs := #[.string c, .int .i64 a1, .int .i64 a2, .int .i64 a3, .int .i64 a4, .int .i64 a5, .int .i64 a6, .int .i64 a7, .int .i64 a8]) (t := 23) ?hr ?_; (case hd => rfl); (case hg => rfl); (case hr => first | (go_simp; done) | (go_simp; rfl)); intro gb hg w1 hbox hb; have n0_ := Aside0.mk (below_step (by repeat (first | (with_reducible first | exact HB.out | apply below_alloc | apply pw_below_drewN | apply below_drew1) | exact HB.out)) hb); have BK := Aside0.mk hbox; clear HB; have HB := n0_; clear n0_; clear hb hbox hg; have hcz1_0 : w1.cell? ⟨gb, 0, none⟩ = some (.string c) := (blk_cell BK.out 0).trans rfl; have hcz1_1 : w1.cell? ⟨gb, 1, none⟩ = some (.int .i64 a1) := (blk_cell BK.out 1).trans rfl; have hcz1_2 : w1.cell? ⟨gb, 2, none⟩ = some (.int .i64 a2) := (blk_cell BK.out 2).trans rfl; have hcz1_3 : w1.cell? ⟨gb, 3, none⟩ = some (.int .i64 a3) := (blk_cell BK.out 3).trans rfl; have hcz1_4 : w1.cell? ⟨gb, 4, none⟩ = some (.int .i64 a4) := (blk_cell BK.out 4).trans rfl; have hcz1_5 : w1.cell? ⟨gb, 5, none⟩ = some (.int .i64 a5) := (blk_cell BK.out 5).trans rfl; have hcz1_6 : w1.cell? ⟨gb, 6, none⟩ = some (.int .i64 a6) := (blk_cell BK.out 6).trans rfl; have hcz1_7 : w1.cell? ⟨gb, 7, none⟩ = some (.int .i64 a7) := (blk_cell BK.out 7).trans rfl; have hcz1_8 : w1.cell? ⟨gb, 8, none⟩ = some (.int .i64 a8) := (blk_cell BK.out 8).trans rfl; have hfz1_0 := blk_frozen BK.out 0; have hfz1_1 := blk_frozen BK.out 1; have hfz1_2 := blk_frozen BK.out 2; have hfz1_3 := blk_frozen BK.out 3; have hfz1_4 := blk_frozen BK.out 4; have hfz1_5 := blk_frozen BK.out 5; have hfz1_6 := blk_frozen BK.out 6; have hfz1_7 := blk_frozen BK.out 7; have hfz1_8 := blk_frozen BK.out 8) | ((with_reducible refine gate_callee (f := 15) rfl ?_); refine goesL_ (some 16) rfl rfl Try.func15 (by kernel_rfl) rfl #[.agg #[.string c, .int .i64 a1, .int .i64 a2, .int .i64 a3, .int .i64 a4, .int .i64 a5, .int .i64 a6, .int .i64 a7, .int .i64 a8], .int .i64 1000000] rfl (by (try simp only [List.map_toArray, List.map_cons, List.map_nil]); first | done | rfl | (simp only [List.length_drop, List.length_take]; rfl) | (go_simp; done) | (simp; done) | (simp; rfl)) ?_; (with_reducible refine (laws_szArticle.calls c a1 a2 a3 a4 a5 a6 a7 a8 1000000 sz _ hsz).mono ?_); rintro e w2 ⟨rfl, hb⟩; refine ⟨_, rfl, ?_⟩; have n0_ := Aside0.mk (blk_below (g := gb) (o := .cells #[.string c, .int .i64 a1, .int .i64 a2, .int .i64 a3, .int .i64 a4, .int .i64 a5, .int .i64 a6, .int .i64 a7, .int .i64 a8] 23 (0, 0)) (by (with_reducible repeat (first | refine blk_drewN ?_ _ | refine blk_drew ?_ | refine blk_alloc ?_ _)); exact BK.out) hb); have n1_ := Aside0.mk (below_step (by repeat (first | (with_reducible first | exact HB.out | apply below_alloc | apply pw_below_drewN | apply below_drew1) | exact HB.out)) hb); clear BK; clear HB; have BK := n0_; have HB := n1_; clear n0_ n1_; clear hb; have hcz2_0 : w2.cell? ⟨gb, 0, none⟩ = some (.string c) := (blk_cell BK.out 0).trans rfl; have hcz2_1 : w2.cell? ⟨gb, 1, none⟩ = some (.int .i64 a1) := (blk_cell BK.out 1).trans rfl; have hcz2_2 : w2.cell? ⟨gb, 2, none⟩ = some (.int .i64 a2) := (blk_cell BK.out 2).trans rfl; have hcz2_3 : w2.cell? ⟨gb, 3, none⟩ = some (.int .i64 a3) := (blk_cell BK.out 3).trans rfl; have hcz2_4 : w2.cell? ⟨gb, 4, none⟩ = some (.int .i64 a4) := (blk_cell BK.out 4).trans rfl; have hcz2_5 : w2.cell? ⟨gb, 5, none⟩ = some (.int .i64 a5) := (blk_cell BK.out 5).trans rfl; have hcz2_6 : w2.cell? ⟨gb, 6, none⟩ = some (.int .i64 a6) := (blk_cell BK.out 6).trans rfl; have hcz2_7 : w2.cell? ⟨gb, 7, none⟩ = some (.int .i64 a7) := (blk_cell BK.out 7).trans rfl; have hcz2_8 : w2.cell? ⟨gb, 8, none⟩ = some (.int .i64 a8) := (blk_cell BK.out 8).trans rfl; have hfz2_0 := blk_frozen BK.out 0; have hfz2_1 := blk_frozen BK.out 1; have hfz2_2 := blk_frozen BK.out 2; have hfz2_3 := blk_frozen BK.out 3; have hfz2_4 := blk_frozen BK.out 4; have hfz2_5 := blk_frozen BK.out 5; have hfz2_6 := blk_frozen BK.out 6; have hfz2_7 := blk_frozen BK.out 7; have hfz2_8 := blk_frozen BK.out 8) | ((with_reducible refine gate_callee (f := 17) rfl ?_); refine goesL_ (some 21) rfl rfl Try.func17 (by kernel_rfl) rfl #[.agg #[.string c, .int .i64 a1, .int .i64 a2, .int .i64 a3, .int .i64 a4, .int .i64 a5, .int .i64 a6, .int .i64 a7, .int .i64 a8]] rfl (by (try simp only [List.map_toArray, List.map_cons, List.map_nil]); first | done | rfl | (simp only [List.length_drop, List.length_take]; rfl) | (go_simp; done) | (simp; done) | (simp; rfl)) ?_; (with_reducible refine (laws_toArticle.calls c a1 a2 a3 a4 a5 a6 a7 a8 c a1 a2 a3 a4 a5 a6 a7 a8 _ hto).mono ?_); rintro e w3 ⟨rfl, hb⟩; refine ⟨_, rfl, ?_⟩; have n0_ := Aside0.mk (blk_below (g := gb) (o := .cells #[.string c, .int .i64 a1, .int .i64 a2, .int .i64 a3, .int .i64 a4, .int .i64 a5, .int .i64 a6, .int .i64 a7, .int .i64 a8] 23 (0, 0)) (by (with_reducible repeat (first | refine blk_drewN ?_ _ | refine blk_drew ?_ | refine blk_alloc ?_ _)); exact BK.out) hb); have n1_ := Aside0.mk (below_step (by repeat (first | (with_reducible first | exact HB.out | apply below_alloc | apply pw_below_drewN | apply below_drew1) | exact HB.out)) hb); clear BK; clear HB; have BK := n0_; have HB := n1_; clear n0_ n1_; clear hb) | ((with_reducible refine gate_callee (f := 39) rfl ?_); refine goesL_ (some 23) rfl rfl Try.func39 (by kernel_rfl) rfl #[.agg #[.string c, .int .i64 a1, .int .i64 a2, .int .i64 a3, .int .i64 a4, .int .i64 a5, .int .i64 a6, .int .i64 a7, .int .i64 a8], .int .i64 lit] rfl (by (try simp only [List.map_toArray, List.map_cons, List.map_nil]); first | done | rfl | (simp only [List.length_drop, List.length_take]; rfl) | (go_simp; done) | (simp; done) | (simp; rfl)) ?_; (with_reducible refine (spec_ShotWindows.calls k c a1 a2 a3 a4 a5 a6 a7 a8 lit r t _ hspec).mono ?_); rintro e w4 ⟨v_, rfl, hS, hb⟩; obtain ⟨Aw, cw, e_⟩ := Kd.S_slice hS; subst e_; refine ⟨_, rfl, ?_⟩; have n0_ := Aside0.mk (blk_below (g := gb) (o := .cells #[.string c, .int .i64 a1, .int .i64 a2, .int .i64 a3, .int .i64 a4, .int .i64 a5, .int .i64 a6, .int .i64 a7, .int .i64 a8] 23 (0, 0)) (by (with_reducible repeat (first | refine blk_drewN ?_ _ | refine blk_drew ?_ | refine blk_alloc ?_ _)); exact BK.out) hb); have n1_ := Aside0.mk (below_step (by repeat (first | (with_reducible first | exact HB.out | apply below_alloc | apply pw_below_drewN | apply below_drew1) | exact HB.out)) hb); clear BK; clear HB; have BK := n0_; have HB := n1_; clear n0_ n1_; clear hb; have HW := Aside0.mk hS; clear hS; have hcz3_0 : w4.cell? ⟨gb, 0, none⟩ = some (.string c) := (blk_cell BK.out 0).trans rfl; have hcz3_1 : w4.cell? ⟨gb, 1, none⟩ = some (.int .i64 a1) := (blk_cell BK.out 1).trans rfl; have hcz3_2 : w4.cell? ⟨gb, 2, none⟩ = some (.int .i64 a2) := (blk_cell BK.out 2).trans rfl; have hcz3_3 : w4.cell? ⟨gb, 3, none⟩ = some (.int .i64 a3) := (blk_cell BK.out 3).trans rfl; have hcz3_4 : w4.cell? ⟨gb, 4, none⟩ = some (.int .i64 a4) := (blk_cell BK.out 4).trans rfl; have hcz3_5 : w4.cell? ⟨gb, 5, none⟩ = some (.int .i64 a5) := (blk_cell BK.out 5).trans rfl; have hcz3_6 : w4.cell? ⟨gb, 6, none⟩ = some (.int .i64 a6) := (blk_cell BK.out 6).trans rfl; have hcz3_7 : w4.cell? ⟨gb, 7, none⟩ = some (.int .i64 a7) := (blk_cell BK.out 7).trans rfl; have hcz3_8 : w4.cell? ⟨gb, 8, none⟩ = some (.int .i64 a8) := (blk_cell BK.out 8).trans rfl; have hfz3_0 := blk_frozen BK.out 0; have hfz3_1 := blk_frozen BK.out 1; have hfz3_2 := blk_frozen BK.out 2; have hfz3_3 := blk_frozen BK.out 3; have hfz3_4 := blk_frozen BK.out 4; have hfz3_5 := blk_frozen BK.out 5; have hfz3_6 := blk_frozen BK.out 6; have hfz3_7 := blk_frozen BK.out 7; have hfz3_8 := blk_frozen BK.out 8) | ((with_reducible refine gate_callee (f := 17) rfl ?_); refine goesL_ (some 28) rfl rfl Try.func17 (by kernel_rfl) rfl #[.agg #[.string c, .int .i64 a1, .int .i64 a2, .int .i64 a3, .int .i64 a4, .int .i64 a5, .int .i64 a6, .int .i64 a7, .int .i64 a8]] rfl (by (try simp only [List.map_toArray, List.map_cons, List.map_nil]); first | done | rfl | (simp only [List.length_drop, List.length_take]; rfl) | (go_simp; done) | (simp; done) | (simp; rfl)) ?_; (with_reducible refine (laws_toArticle.calls c a1 a2 a3 a4 a5 a6 a7 a8 c a1 a2 a3 a4 a5 a6 a7 a8 _ hto).mono ?_); rintro e w5 ⟨rfl, hb⟩; refine ⟨_, rfl, ?_⟩; have n0_ := Aside0.mk (blk_below (g := gb) (o := .cells #[.string c, .int .i64 a1, .int .i64 a2, .int .i64 a3, .int .i64 a4, .int .i64 a5, .int .i64 a6, .int .i64 a7, .int .i64 a8] 23 (0, 0)) (by (with_reducible repeat (first | refine blk_drewN ?_ _ | refine blk_drew ?_ | refine blk_alloc ?_ _)); exact BK.out) hb); have n1_ := Aside0.mk (Kd.S_below (by (with_reducible repeat (first | apply Kd.S_alloc | apply Kd.S_drewN | apply Kd.S_drew)); exact HW.out) hb); have n2_ := Aside0.mk (below_step (by repeat (first | (with_reducible first | exact HB.out | apply below_alloc | apply pw_below_drewN | apply below_drew1) | exact HB.out)) hb); clear BK; clear HW; clear HB; have BK := n0_; have HW := n1_; have HB := n2_; clear n0_ n1_ n2_; clear hb) | ((with_reducible refine gate_callee (f := 40) rfl ?_); refine goesL_ (some 30) rfl rfl Try.func40 (by kernel_rfl) rfl #[.agg #[.string c, .int .i64 a1, .int .i64 a2, .int .i64 a3, .int .i64 a4, .int .i64 a5, .int .i64 a6, .int .i64 a7, .int .i64 a8], .int .i64 lit] rfl (by (try simp only [List.map_toArray, List.map_cons, List.map_nil]); first | done | rfl | (simp only [List.length_drop, List.length_take]; rfl) | (go_simp; done) | (simp; done) | (simp; rfl)) ?_; (with_reducible refine (impl_ShotWindows.calls k c a1 a2 a3 a4 a5 a6 a7 a8 lit r t _ himp).mono ?_); rintro e w6 ⟨v_, rfl, hS, hb⟩; obtain ⟨Ag, cg, e_⟩ := Kd.S_slice hS; subst e_; refine ⟨_, rfl, ?_⟩; have HWb := Aside0.mk (at_S hb (by (with_reducible repeat (first | apply Kd.S_alloc | apply Kd.S_drewN | apply Kd.S_drew)); exact HW.out)); have HBb := Aside0.mk (at_B hb (by repeat (first | (with_reducible first | exact HB.out | apply below_alloc | apply pw_below_drewN | apply below_drew1) | exact HB.out))); have BKb := Aside0.mk (at_K hb (g := gb) (o := .cells #[.string c, .int .i64 a1, .int .i64 a2, .int .i64 a3, .int .i64 a4, .int .i64 a5, .int .i64 a6, .int .i64 a7, .int .i64 a8] 23 (0, 0)) (by (with_reducible repeat (first | refine blk_drewN ?_ _ | refine blk_drew ?_ | refine blk_alloc ?_ _)); exact BK.out)); have HBGn := Aside0.mk hb; have n0_ := Aside0.mk (blk_below (g := gb) (o := .cells #[.string c, .int .i64 a1, .int .i64 a2, .int .i64 a3, .int .i64 a4, .int .i64 a5, .int .i64 a6, .int .i64 a7, .int .i64 a8] 23 (0, 0)) (by (with_reducible repeat (first | refine blk_drewN ?_ _ | refine blk_drew ?_ | refine blk_alloc ?_ _)); exact BK.out) hb); have n1_ := Aside0.mk (Kd.S_below (by (with_reducible repeat (first | apply Kd.S_alloc | apply Kd.S_drewN | apply Kd.S_drew)); exact HW.out) hb); have n2_ := Aside0.mk (below_step (by repeat (first | (with_reducible first | exact HB.out | apply below_alloc | apply pw_below_drewN | apply below_drew1) | exact HB.out)) hb); clear BK; clear HW; clear HB; have BK := n0_; have HW := n1_; have HB := n2_; clear n0_ n1_ n2_; clear hb; have HG := Aside0.mk hS; have HBG := HBGn; clear hS HBGn) | (go_at_call 41; (with_reducible refine (laws_eqInt64SS.calls k _ _ r _ _ r true _ ?side1 ?side2 ?side3 ?side4 heqr).mono ?_); (case side1 => exact (Kd.S_reads' (by (with_reducible repeat (first | apply Kd.S_alloc | apply Kd.S_drewN | apply Kd.S_drew)); exact HG.out)).2.2); (case side2 => exact (Kd.S_reads' HG.out).2.1); (case side3 => exact (Kd.S_reads' (by (with_reducible repeat (first | apply Kd.S_alloc | apply Kd.S_drewN | apply Kd.S_drew)); exact HW.out)).2.2); (case side4 => exact (Kd.S_reads' HW.out).2.1); rintro e w7 ⟨rfl, hd⟩; have hb := drawn_below hd; clear hd; have n0_ := Aside0.mk (blk_below (g := gb) (o := .cells #[.string c, .int .i64 a1, .int .i64 a2, .int .i64 a3, .int .i64 a4, .int .i64 a5, .int .i64 a6, .int .i64 a7, .int .i64 a8] 23 (0, 0)) (by (with_reducible repeat (first | refine blk_drewN ?_ _ | refine blk_drew ?_ | refine blk_alloc ?_ _)); exact BK.out) hb); have n1_ := Aside0.mk (Kd.S_below (by (with_reducible repeat (first | apply Kd.S_alloc | apply Kd.S_drewN | apply Kd.S_drew)); exact HW.out) hb); have n2_ := Aside0.mk (Kd.S_below (by (with_reducible repeat (first | apply Kd.S_alloc | apply Kd.S_drewN | apply Kd.S_drew)); exact HG.out) hb); have n3_ := Aside0.mk (below_step (by repeat (first | (with_reducible first | exact HBG.out | apply pw_below_drewN | apply below_drew1 | apply below_alloc) | exact HBG.out)) hb); have n4_ := Aside0.mk (below_step (by repeat (first | (with_reducible first | exact HB.out | apply below_alloc | apply pw_below_drewN | apply below_drew1) | exact HB.out)) hb); clear BK; clear HW; clear HG; clear HBG; clear HB; have BK := n0_; have HW := n1_; have HG := n2_; have HBG := n3_; have HB := n4_; clear n0_ n1_ n2_ n3_ n4_; clear hb) | ((with_reducible refine gate_callee (f := 42) rfl ?_); refine goesL_ (some 44) rfl rfl Try.func42 (by kernel_rfl) rfl #[.slice Ag r.length cg, .int .i64 101] rfl (by (try simp only [List.map_toArray, List.map_cons, List.map_nil]); first | done | rfl | (simp only [List.length_drop, List.length_take]; rfl) | (go_simp; done) | (simp; done) | (simp; rfl)) ?_; (with_reducible refine (mark_at k _ r 101 km Mg (by repeat (first | (with_reducible first | exact HBG.out | apply pw_below_drewN | apply below_drew1 | apply below_alloc) | exact HBG.out)) ?side1 hm).mono ?_); (case side1 => exact (by (with_reducible repeat (first | apply Kd.S_alloc | apply Kd.S_drewN | apply Kd.S_drew)); exact HG.out)); rintro e w8 ⟨rfl, hS, hbm⟩; refine ⟨_, rfl, ?_⟩; have n0_ := Aside0.mk (Kd.S_below HWb.out hbm); have n1_ := Aside0.mk (blk_below (g := gb) (o := .cells #[.string c, .int .i64 a1, .int .i64 a2, .int .i64 a3, .int .i64 a4, .int .i64 a5, .int .i64 a6, .int .i64 a7, .int .i64 a8] 23 (0, 0)) BKb.out hbm); have n2_ := Aside0.mk (below_step HBb.out hbm); have n3_ := Aside0.mk (hS); clear HW; clear BK; clear HB; have HW := n0_; have BK := n1_; have HB := n2_; have HM := n3_; clear n0_ n1_ n2_ n3_; clear HG HBG HWb BKb HBb hbm hS) | ((with_reducible refine gate_callee (f := 43) rfl ?_); refine goesL_ (some 47) rfl rfl Try.func43 (by kernel_rfl) rfl #[.slice Ag r.length cg, .int .i64 101] rfl (by (try simp only [List.map_toArray, List.map_cons, List.map_nil]); first | done | rfl | (simp only [List.length_drop, List.length_take]; rfl) | (go_simp; done) | (simp; done) | (simp; rfl)) ?_; (with_reducible refine (hheld _ _ _ ?side1 ?side2).mono ?_); (case side1 => exact (Kd.S_reads' (by (with_reducible repeat (first | apply Kd.S_alloc | apply Kd.S_drewN | apply Kd.S_drew)); exact HM.out)).2.2); (case side2 => exact (Kd.S_reads' HM.out |> fun z_ => z_.1 ▸ z_.2.1)); rintro e w9 ⟨rfl, hd⟩; have hb := drawn_below hd; clear hd; refine ⟨_, rfl, ?_⟩; have n0_ := Aside0.mk (blk_below (g := gb) (o := .cells #[.string c, .int .i64 a1, .int .i64 a2, .int .i64 a3, .int .i64 a4, .int .i64 a5, .int .i64 a6, .int .i64 a7, .int .i64 a8] 23 (0, 0)) (by (with_reducible repeat (first | refine blk_drewN ?_ _ | refine blk_drew ?_ | refine blk_alloc ?_ _)); exact BK.out) hb); have n1_ := Aside0.mk (Kd.S_below (by (with_reducible repeat (first | apply Kd.S_alloc | apply Kd.S_drewN | apply Kd.S_drew)); exact HW.out) hb); have n2_ := Aside0.mk (Kd.S_below (by (with_reducible repeat (first | apply Kd.S_alloc | apply Kd.S_drewN | apply Kd.S_drew)); exact HM.out) hb); have n3_ := Aside0.mk (below_step (by repeat (first | (with_reducible first | exact HB.out | apply below_alloc | apply pw_below_drewN | apply below_drew1) | exact HB.out)) hb); clear BK; clear HW; clear HM; clear HB; have BK := n0_; have HW := n1_; have HM := n2_; have HB := n3_; clear n0_ n1_ n2_ n3_; clear hb; have hcz4_0 : w9.cell? ⟨gb, 0, none⟩ = some (.string c) := (blk_cell BK.out 0).trans rfl; have hcz4_1 : w9.cell? ⟨gb, 1, none⟩ = some (.int .i64 a1) := (blk_cell BK.out 1).trans rfl; have hcz4_2 : w9.cell? ⟨gb, 2, none⟩ = some (.int .i64 a2) := (blk_cell BK.out 2).trans rfl; have hcz4_3 : w9.cell? ⟨gb, 3, none⟩ = some (.int .i64 a3) := (blk_cell BK.out 3).trans rfl; have hcz4_4 : w9.cell? ⟨gb, 4, none⟩ = some (.int .i64 a4) := (blk_cell BK.out 4).trans rfl; have hcz4_5 : w9.cell? ⟨gb, 5, none⟩ = some (.int .i64 a5) := (blk_cell BK.out 5).trans rfl; have hcz4_6 : w9.cell? ⟨gb, 6, none⟩ = some (.int .i64 a6) := (blk_cell BK.out 6).trans rfl; have hcz4_7 : w9.cell? ⟨gb, 7, none⟩ = some (.int .i64 a7) := (blk_cell BK.out 7).trans rfl; have hcz4_8 : w9.cell? ⟨gb, 8, none⟩ = some (.int .i64 a8) := (blk_cell BK.out 8).trans rfl; have hfz4_0 := blk_frozen BK.out 0; have hfz4_1 := blk_frozen BK.out 1; have hfz4_2 := blk_frozen BK.out 2; have hfz4_3 := blk_frozen BK.out 3; have hfz4_4 := blk_frozen BK.out 4; have hfz4_5 := blk_frozen BK.out 5; have hfz4_6 := blk_frozen BK.out 6; have hfz4_7 := blk_frozen BK.out 7; have hfz4_8 := blk_frozen BK.out 8) | ((with_reducible refine gate_callee (f := 17) rfl ?_); refine goesL_ (some 55) rfl rfl Try.func17 (by kernel_rfl) rfl #[.agg #[.string c, .int .i64 a1, .int .i64 a2, .int .i64 a3, .int .i64 a4, .int .i64 a5, .int .i64 a6, .int .i64 a7, .int .i64 a8]] rfl (by (try simp only [List.map_toArray, List.map_cons, List.map_nil]); first | done | rfl | (simp only [List.length_drop, List.length_take]; rfl) | (go_simp; done) | (simp; done) | (simp; rfl)) ?_; (with_reducible refine (laws_toArticle.calls c a1 a2 a3 a4 a5 a6 a7 a8 c a1 a2 a3 a4 a5 a6 a7 a8 _ hto).mono ?_); rintro e w10 ⟨rfl, hb⟩; refine ⟨_, rfl, ?_⟩; have n0_ := Aside0.mk (blk_below (g := gb) (o := .cells #[.string c, .int .i64 a1, .int .i64 a2, .int .i64 a3, .int .i64 a4, .int .i64 a5, .int .i64 a6, .int .i64 a7, .int .i64 a8] 23 (0, 0)) (by (with_reducible repeat (first | refine blk_drewN ?_ _ | refine blk_drew ?_ | refine blk_alloc ?_ _)); exact BK.out) hb); have n1_ := Aside0.mk (Kd.S_below (by (with_reducible repeat (first | apply Kd.S_alloc | apply Kd.S_drewN | apply Kd.S_drew)); exact HW.out) hb); have n2_ := Aside0.mk (Kd.S_below (by (with_reducible repeat (first | apply Kd.S_alloc | apply Kd.S_drewN | apply Kd.S_drew)); exact HM.out) hb); have n3_ := Aside0.mk (below_step (by repeat (first | (with_reducible first | exact HB.out | apply below_alloc | apply pw_below_drewN | apply below_drew1) | exact HB.out)) hb); clear BK; clear HW; clear HM; clear HB; have BK := n0_; have HW := n1_; have HM := n2_; have HB := n3_; clear n0_ n1_ n2_ n3_; clear hb) | ((with_reducible refine gate_callee (f := 40) rfl ?_); refine goesL_ (some 57) rfl rfl Try.func40 (by kernel_rfl) rfl #[.agg #[.string c, .int .i64 a1, .int .i64 a2, .int .i64 a3, .int .i64 a4, .int .i64 a5, .int .i64 a6, .int .i64 a7, .int .i64 a8], .int .i64 lit] rfl (by (try simp only [List.map_toArray, List.map_cons, List.map_nil]); first | done | rfl | (simp only [List.length_drop, List.length_take]; rfl) | (go_simp; done) | (simp; done) | (simp; rfl)) ?_; (with_reducible refine (impl_ShotWindows.calls k c a1 a2 a3 a4 a5 a6 a7 a8 lit r t _ himp).mono ?_); rintro e w11 ⟨v_, rfl, hS, hb⟩; obtain ⟨Ah, ch, e_⟩ := Kd.S_slice hS; subst e_; refine ⟨_, rfl, ?_⟩; have n0_ := Aside0.mk (blk_below (g := gb) (o := .cells #[.string c, .int .i64 a1, .int .i64 a2, .int .i64 a3, .int .i64 a4, .int .i64 a5, .int .i64 a6, .int .i64 a7, .int .i64 a8] 23 (0, 0)) (by (with_reducible repeat (first | refine blk_drewN ?_ _ | refine blk_drew ?_ | refine blk_alloc ?_ _)); exact BK.out) hb); have n1_ := Aside0.mk (Kd.S_below (by (with_reducible repeat (first | apply Kd.S_alloc | apply Kd.S_drewN | apply Kd.S_drew)); exact HW.out) hb); have n2_ := Aside0.mk (Kd.S_below (by (with_reducible repeat (first | apply Kd.S_alloc | apply Kd.S_drewN | apply Kd.S_drew)); exact HM.out) hb); have n3_ := Aside0.mk (below_step (by repeat (first | (with_reducible first | exact HB.out | apply below_alloc | apply pw_below_drewN | apply below_drew1) | exact HB.out)) hb); clear BK; clear HW; clear HM; clear HB; have BK := n0_; have HW := n1_; have HM := n2_; have HB := n3_; clear n0_ n1_ n2_ n3_; clear hb; have HH := Aside0.mk hS; clear hS) | (go_at_call 41; (with_reducible refine (laws_eqInt64SS.calls k _ _ r _ _ r true _ ?side1 ?side2 ?side3 ?side4 heqr).mono ?_); (case side1 => exact (Kd.S_reads' (by (with_reducible repeat (first | apply Kd.S_alloc | apply Kd.S_drewN | apply Kd.S_drew)); exact HH.out)).2.2); (case side2 => exact (Kd.S_reads' HH.out).2.1); (case side3 => exact (Kd.S_reads' (by (with_reducible repeat (first | apply Kd.S_alloc | apply Kd.S_drewN | apply Kd.S_drew)); exact HW.out)).2.2); (case side4 => exact (Kd.S_reads' HW.out).2.1); rintro e w12 ⟨rfl, hd⟩; have hb := drawn_below hd; clear hd; have n0_ := Aside0.mk (blk_below (g := gb) (o := .cells #[.string c, .int .i64 a1, .int .i64 a2, .int .i64 a3, .int .i64 a4, .int .i64 a5, .int .i64 a6, .int .i64 a7, .int .i64 a8] 23 (0, 0)) (by (with_reducible repeat (first | refine blk_drewN ?_ _ | refine blk_drew ?_ | refine blk_alloc ?_ _)); exact BK.out) hb); have n1_ := Aside0.mk (Kd.S_below (by (with_reducible repeat (first | apply Kd.S_alloc | apply Kd.S_drewN | apply Kd.S_drew)); exact HW.out) hb); have n2_ := Aside0.mk (Kd.S_below (by (with_reducible repeat (first | apply Kd.S_alloc | apply Kd.S_drewN | apply Kd.S_drew)); exact HM.out) hb); have n3_ := Aside0.mk (Kd.S_below (by (with_reducible repeat (first | apply Kd.S_alloc | apply Kd.S_drewN | apply Kd.S_drew)); exact HH.out) hb); have n4_ := Aside0.mk (below_step (by repeat (first | (with_reducible first | exact HB.out | apply below_alloc | apply pw_below_drewN | apply below_drew1) | exact HB.out)) hb); clear BK; clear HW; clear HM; clear HH; clear HB; have BK := n0_; have HW := n1_; have HM := n2_; have HH := n3_; have HB := n4_; clear n0_ n1_ n2_ n3_ n4_; clear hb) | ((with_reducible refine gate_callee (f := 43) rfl ?_); refine goesL_ (some 71) rfl rfl Try.func43 (by kernel_rfl) rfl #[.slice Ag r.length cg, .int .i64 101] rfl (by (try simp only [List.map_toArray, List.map_cons, List.map_nil]); first | done | rfl | (simp only [List.length_drop, List.length_take]; rfl) | (go_simp; done) | (simp; done) | (simp; rfl)) ?_; (with_reducible refine (hheld _ _ _ ?side1 ?side2).mono ?_); (case side1 => exact (Kd.S_reads' (by (with_reducible repeat (first | apply Kd.S_alloc | apply Kd.S_drewN | apply Kd.S_drew)); exact HM.out)).2.2); (case side2 => exact (Kd.S_reads' HM.out |> fun z_ => z_.1 ▸ z_.2.1)); rintro e w13 ⟨rfl, hd⟩; have hb := drawn_below hd; clear hd; refine ⟨_, rfl, ?_⟩; have n0_ := Aside0.mk (blk_below (g := gb) (o := .cells #[.string c, .int .i64 a1, .int .i64 a2, .int .i64 a3, .int .i64 a4, .int .i64 a5, .int .i64 a6, .int .i64 a7, .int .i64 a8] 23 (0, 0)) (by (with_reducible repeat (first | refine blk_drewN ?_ _ | refine blk_drew ?_ | refine blk_alloc ?_ _)); exact BK.out) hb); have n1_ := Aside0.mk (Kd.S_below (by (with_reducible repeat (first | apply Kd.S_alloc | apply Kd.S_drewN | apply Kd.S_drew)); exact HM.out) hb); have n2_ := Aside0.mk (below_step (by repeat (first | (with_reducible first | exact HB.out | apply below_alloc | apply pw_below_drewN | apply below_drew1) | exact HB.out)) hb); clear BK; clear HM; clear HB; have BK := n0_; have HM := n1_; have HB := n2_; clear n0_ n1_ n2_; clear hb))
  go_ret
  exact ⟨by first | rfl | (simp [errW_none, errW_some] <;> rfl) | (simp [*, errW_none, errW_some] <;> rfl), by repeat (first | (with_reducible first | exact HB.out | apply below_alloc | apply pw_below_drewN | apply below_drew1) | exact HB.out)⟩
set_option maxHeartbeats 8000000 in
set_option maxRecDepth 100000 in
theorem big (c : ByteArray) (a1 a2 a3 a4 a5 a6 a7 a8 lit : Int) (sz : Int) (w : World) (hsz : laws_szArticle.f c a1 a2 a3 a4 a5 a6 a7 a8 1000000 = some sz) (hsz0 : sz < 0) :
    Calls Try.prog 8 #[.agg #[.string c, .int .i64 a1, .int .i64 a2, .int .i64 a3, .int .i64 a4, .int .i64 a5, .int .i64 a6, .int .i64 a7, .int .i64 a8], .int .i64 lit] w fun e w' => e = .returned (.bool true) ∧ Below w.heap.size w w' := by
  have hu23 := Try.underlying23
  have HB := Aside0.mk (Below.refl w.heap.size w)
  have c1b0 : decide (sz < 0) = true := decide_eq_true hsz0
  clear hsz0
  go_enter Try.func8, Try.ntmps8
  go_wp2_with (first | ((with_reducible refine gate_dst (N := 2) rfl ?_); refine box_event ?hg (N := 2) ?hd (cs := #[.string c, .int .i64 a1, .int .i64 a2, .int .i64 a3, .int .i64 a4, .int .i64 a5, .int .i64 a6, .int .i64 a7, .int .i64 a8]) (t := 23) ?hr ?_; (case hd => rfl); (case hg => rfl); (case hr => first | (go_simp; done) | (go_simp; rfl)); intro gb hg w1 hbox hb; have n0_ := Aside0.mk (below_step (by repeat (first | (with_reducible first | exact HB.out | apply below_alloc | apply pw_below_drewN | apply below_drew1) | exact HB.out)) hb); have BK := Aside0.mk hbox; clear HB; have HB := n0_; clear n0_; clear hb hbox hg; have hcz1_0 : w1.cell? ⟨gb, 0, none⟩ = some (.string c) := (blk_cell BK.out 0).trans rfl; have hcz1_1 : w1.cell? ⟨gb, 1, none⟩ = some (.int .i64 a1) := (blk_cell BK.out 1).trans rfl; have hcz1_2 : w1.cell? ⟨gb, 2, none⟩ = some (.int .i64 a2) := (blk_cell BK.out 2).trans rfl; have hcz1_3 : w1.cell? ⟨gb, 3, none⟩ = some (.int .i64 a3) := (blk_cell BK.out 3).trans rfl; have hcz1_4 : w1.cell? ⟨gb, 4, none⟩ = some (.int .i64 a4) := (blk_cell BK.out 4).trans rfl; have hcz1_5 : w1.cell? ⟨gb, 5, none⟩ = some (.int .i64 a5) := (blk_cell BK.out 5).trans rfl; have hcz1_6 : w1.cell? ⟨gb, 6, none⟩ = some (.int .i64 a6) := (blk_cell BK.out 6).trans rfl; have hcz1_7 : w1.cell? ⟨gb, 7, none⟩ = some (.int .i64 a7) := (blk_cell BK.out 7).trans rfl; have hcz1_8 : w1.cell? ⟨gb, 8, none⟩ = some (.int .i64 a8) := (blk_cell BK.out 8).trans rfl; have hfz1_0 := blk_frozen BK.out 0; have hfz1_1 := blk_frozen BK.out 1; have hfz1_2 := blk_frozen BK.out 2; have hfz1_3 := blk_frozen BK.out 3; have hfz1_4 := blk_frozen BK.out 4; have hfz1_5 := blk_frozen BK.out 5; have hfz1_6 := blk_frozen BK.out 6; have hfz1_7 := blk_frozen BK.out 7; have hfz1_8 := blk_frozen BK.out 8) | ((with_reducible refine gate_callee (f := 15) rfl ?_); refine goesL_ (some 16) rfl rfl Try.func15 (by kernel_rfl) rfl #[.agg #[.string c, .int .i64 a1, .int .i64 a2, .int .i64 a3, .int .i64 a4, .int .i64 a5, .int .i64 a6, .int .i64 a7, .int .i64 a8], .int .i64 1000000] rfl (by (try simp only [List.map_toArray, List.map_cons, List.map_nil]); first | done | rfl | (simp only [List.length_drop, List.length_take]; rfl) | (go_simp; done) | (simp; done) | (simp; rfl)) ?_; (with_reducible refine (laws_szArticle.calls c a1 a2 a3 a4 a5 a6 a7 a8 1000000 sz _ hsz).mono ?_); rintro e w2 ⟨rfl, hb⟩; refine ⟨_, rfl, ?_⟩; have n0_ := Aside0.mk (blk_below (g := gb) (o := .cells #[.string c, .int .i64 a1, .int .i64 a2, .int .i64 a3, .int .i64 a4, .int .i64 a5, .int .i64 a6, .int .i64 a7, .int .i64 a8] 23 (0, 0)) (by (with_reducible repeat (first | refine blk_drewN ?_ _ | refine blk_drew ?_ | refine blk_alloc ?_ _)); exact BK.out) hb); have n1_ := Aside0.mk (below_step (by repeat (first | (with_reducible first | exact HB.out | apply below_alloc | apply pw_below_drewN | apply below_drew1) | exact HB.out)) hb); clear BK; clear HB; have BK := n0_; have HB := n1_; clear n0_ n1_; clear hb))
  go_ret
  exact ⟨by first | rfl | (simp [errW_none, errW_some] <;> rfl) | (simp [*, errW_none, errW_some] <;> rfl), by repeat (first | (with_reducible first | exact HB.out | apply below_alloc | apply pw_below_drewN | apply below_drew1) | exact HB.out)⟩
/-! ### what it computes -/
def win (lit lift spread gap k : Int) : List Int := [wrap64 ((wrap64 ((wrap64 (lit + lift)) + (wrap64 (k * gap)))) - spread), wrap64 ((wrap64 ((wrap64 (lit + lift)) + (wrap64 (k * gap)))) + spread)]
def wins (lit lift spread gap : Int) : Nat → Int → List (List Int)
  | 0, _ => []
  | n + 1, k => win lit lift spread gap k :: wins lit lift spread gap n (k + 1)
theorem wins_len (lit lift spread gap : Int) : ∀ n k, (wins lit lift spread gap n k).length = n
  | 0, _ => rfl
  | n + 1, k => by simp [wins, wins_len lit lift spread gap n]
theorem wins_two (lit lift spread gap : Int) : ∀ n k, ∀ x ∈ wins lit lift spread gap n k, x.length = 2
  | 0, _ => by simp [wins]
  | n + 1, k => by
    intro x hx
    rcases List.mem_cons.1 hx with rfl | hx
    · rfl
    · exact wins_two lit lift spread gap n _ x hx
theorem spec_l0 (c : ByteArray) (a1 a2 a3 a4 a5 a6 a7 a8 lit : Int) (h5 : a5 ≤ 50) : ∀ (n : Nat) (acc : List (List Int)) (i : Int), 0 ≤ i → i + n = a5 → acc.length ≤ i →
    Ev (fun k => spec_ShotWindows.l0 k lit acc i c a1 a2 a3 a4 a5 a6 a7 a8) (acc ++ wins lit a3 a4 a6 n i, 0) := by
  intro n
  induction n with
  | zero =>
    intro acc i h0 h1 h2
    refine Ev.step (fun k => spec_ShotWindows.l0.eq_2 ..) (ev_neg (by omega) (ev_ret ?_))
    simp [wins]
  | succ n ih =>
    intro acc i h0 h1 h2
    refine Ev.step (fun k => spec_ShotWindows.l0.eq_2 ..) (ev_pos (by omega) (ev_bind0 rfl (ev_pos (by omega) ?_)))
    rw [w64 (n := i + 1) (by omega) (by omega)]
    have := ih (acc ++ [win lit a3 a4 a6 i]) (i + 1) (by omega) (by omega) (by simp; omega)
    rw [List.append_assoc] at this
    exact this
theorem impl_l0 (c : ByteArray) (a1 a2 a3 a4 a5 a6 a7 a8 lit : Int) (h5 : a5 ≤ 50) : ∀ (n : Nat) (acc : List (List Int)) (i : Int), 0 ≤ i → i + n = a5 → acc.length ≤ i →
    Ev (fun k => impl_shotWindows.l0 k lit acc i c a1 a2 a3 a4 a5 a6 a7 a8) (acc ++ wins lit a3 a4 a6 n i) := by
  intro n
  induction n with
  | zero =>
    intro acc i h0 h1 h2
    refine Ev.step (fun k => impl_shotWindows.l0.eq_2 ..) (ev_neg (by omega) (ev_ret ?_))
    simp [wins]
  | succ n ih =>
    intro acc i h0 h1 h2
    refine Ev.step (fun k => impl_shotWindows.l0.eq_2 ..) (ev_pos (by omega) (ev_pos (by omega) ?_))
    rw [w64 (n := i + 1) (by omega) (by omega)]
    have := ih (acc ++ [win lit a3 a4 a6 i]) (i + 1) (by omega) (by omega) (by simp; omega)
    rw [List.append_assoc] at this
    exact this
theorem both (c : ByteArray) (a1 a2 a3 a4 a5 a6 a7 a8 lit : Int) (hs : c.size ≤ 4611686018427387904) : ∃ r t, Ev (fun k => spec_ShotWindows.f k c a1 a2 a3 a4 a5 a6 a7 a8 lit) (r, t) ∧ Ev (fun k => impl_ShotWindows.f k c a1 a2 a3 a4 a5 a6 a7 a8 lit) (r, t) ∧ r.length ≤ 50 ∧ ∀ x ∈ r, x.length = 2 := by
  have e1 := spec_IsArticle_ev c a1 a2 a3 a4 a5 a6 a7 a8 hs
  have e2 := impl_IsArticle_ev c a1 a2 a3 a4 a5 a6 a7 a8 hs
  have t1 : spec_l01IsTime.f lit = some (decide (0 ≤ lit ∧ lit ≤ 10000000)) := by unfold spec_l01IsTime.f; rw [in_eq]; rfl
  have t2 : impl_isTime.f lit = some (decide (0 ≤ lit ∧ lit ≤ 10000000)) := by unfold impl_isTime.f; rw [within_eq]; rfl
  by_cases g : ArtB c a1 a2 a3 a4 a5 a6 a7 a8 = true
  · obtain ⟨_, _, _, _, _, g5, _⟩ := artB_true g
    by_cases h : 0 ≤ lit ∧ lit ≤ 10000000
    · have s := spec_l0 c a1 a2 a3 a4 a5 a6 a7 a8 lit (by omega) a5.toNat [] 0 (by omega) (by omega) (by simp)
      have i := impl_l0 c a1 a2 a3 a4 a5 a6 a7 a8 lit (by omega) a5.toNat [] 0 (by omega) (by omega) (by simp)
      rw [List.nil_append] at s i
      refine ⟨wins lit a3 a4 a6 a5.toNat 0, 0, ?_, ?_, ?_, wins_two _ _ _ _ _ _⟩
      · unfold spec_ShotWindows.f
        exact e1.bind (ev_pos g (ev_bind0 t1 (ev_pos (decide_eq_true h) s)))
      · unfold impl_ShotWindows.f
        exact e2.bind (ev_pos g (ev_bind0 t2 (ev_pos (decide_eq_true h) (i.bind (Ev.now _)))))
      · rw [wins_len]; omega
    · refine ⟨[], 2, ?_, ?_, by simp, by simp⟩
      · unfold spec_ShotWindows.f
        exact e1.bind (ev_pos g (ev_bind0 t1 (ev_neg (by simpa using h) (Ev.now _))))
      · unfold impl_ShotWindows.f
        exact e2.bind (ev_pos g (ev_bind0 t2 (ev_neg (by simpa using h) (Ev.now _))))
  · refine ⟨[], 1, ?_, ?_, by simp, by simp⟩
    · unfold spec_ShotWindows.f
      exact e1.bind (ev_neg g (Ev.now _))
    · unfold impl_ShotWindows.f
      exact e2.bind (ev_neg g (Ev.now _))
theorem rd_L1_drop {l R : List (List Int)} {c : List Int} {i : Nat} (h : l.drop i = c :: R) : (i : Int) < l.length ∧ rd_L1 l i = c ∧ l.drop (i + 1) = R := by
  have hi : i < l.length := by
    apply Classical.byContradiction
    intro hn
    rw [List.drop_eq_nil_of_le (by omega)] at h; cases h
  rw [List.drop_eq_getElem_cons hi] at h
  injection h with h1 h2
  refine ⟨by omega, ?_, h2⟩
  unfold rd_L1
  rw [Int.toNat_natCast, List.getD_eq_getElem?_getD, List.getElem?_eq_getElem hi]; exact h1
theorem eqSS_l0 (l : List (List Int)) (hl : l.length ≤ 50) (h2 : ∀ x ∈ l, x.length = 2) : ∀ (R : List (List Int)) (i : Nat), l.drop i = R → Ev (fun k => laws_eqInt64SS.l0 k l l i) true := by
  intro R
  induction R with
  | nil =>
    intro i h
    have : l.length ≤ i := by
      apply Classical.byContradiction
      intro hn
      rw [List.drop_eq_getElem_cons (by omega)] at h; cases h
    exact Ev.step (fun k => laws_eqInt64SS.l0.eq_2 ..) (ev_neg (by omega) (Ev.now _))
  | cons c R ih =>
    intro i h
    obtain ⟨p1, p2, p3⟩ := rd_L1_drop h
    have hc := h2 c (by have : c ∈ l.drop i := by rw [h]; simp
                        exact List.mem_of_mem_drop this)
    refine Ev.step (fun k => laws_eqInt64SS.l0.eq_2 ..) (ev_pos p1 (ev_pos (by omega) (ev_pos p1 ?_)))
    rw [p2]
    refine (eqInt64S_ev c (by omega)).bind (ev_pos rfl ?_)
    rw [w64 (n := (i : Int) + 1) (by omega) (by omega)]
    exact ih (i + 1) p3
theorem eqSS_ev (l : List (List Int)) (hl : l.length ≤ 50) (h2 : ∀ x ∈ l, x.length = 2) : Ev (fun k => laws_eqInt64SS.f k l l) true := by
  have h := eqSS_l0 l hl h2 l 0 rfl
  exact ev_pos rfl h
def mkSS (m : Int) : List (List Int) → List (List Int)
  | [] => []
  | r :: R => mkI m r.length :: mkSS (m + r.length) R
def tot : List (List Int) → Int
  | [] => 0
  | r :: R => r.length + tot R
theorem tot_two : ∀ (l : List (List Int)), (∀ x ∈ l, x.length = 2) → tot l = 2 * l.length
  | [], _ => rfl
  | r :: R, h => by
    have h1 := h r (by simp)
    have h2 := tot_two R (fun x hx => h x (by simp [hx]))
    simp only [tot, h2, h1, List.length_cons]; omega
theorem mkSS_len : ∀ (l : List (List Int)) (m : Int), (mkSS m l).length = l.length
  | [], _ => rfl
  | r :: R, m => by simp [mkSS, mkSS_len R]
theorem mSS_l0 : ∀ (R P : List (List Int)) (m : Int), 0 ≤ m → m + tot R ≤ 1000000 → P.length + R.length ≤ 1000000 → (∀ x ∈ R, x.length = 2) →
    Ev (fun k => mSS k (P ++ R) m P.length) (m + tot R, P ++ mkSS m R) := by
  intro R
  induction R with
  | nil =>
    intro P m h0 h1 h2 _
    exact Ev.step (fun k => mSS.eq_2 ..) (ev_neg (by simp) (ev_ret (by simp [tot, mkSS])))
  | cons c R ih =>
    intro P m h0 h1 h2 h3
    obtain ⟨p1, p2, p3⟩ := rd_L1_drop (show (P ++ c :: R).drop P.length = c :: R from drop_mid ..)
    have hc := h3 c (by simp)
    have ht : 0 ≤ tot R := by rw [tot_two R (fun x hx => h3 x (by simp [hx]))]; omega
    simp only [tot, List.length_cons] at h1 h2
    refine Ev.step (fun k => mSS.eq_2 ..) (ev_pos p1 (ev_pos (by omega) ?_))
    rw [p2]
    refine (markInt64S_ev c h0 (by omega)).bind ?_
    rw [Int.toNat_natCast, set_mid, w64 (n := (P.length : Int) + 1) (by omega) (by omega)]
    have := ih (P ++ [mkI m c.length]) (m + c.length) (by omega) (by omega) (by simp; omega) (fun x hx => h3 x (by simp [hx]))
    rw [List.append_assoc, List.append_assoc, List.length_append, show m + (c.length : Int) + tot R = m + (c.length + tot R) by omega] at this
    simpa [mkSS, tot] using this
theorem mSS_ev (l : List (List Int)) (hl : l.length ≤ 50) (h2 : ∀ x ∈ l, x.length = 2) : Ev (fun k => mSS k l 101 0) (101 + tot l, mkSS 101 l) := by
  have := mSS_l0 l [] 101 (by omega) (by rw [tot_two l h2]; omega) (by simp; omega) h2
  simpa using this
theorem held_l0 : ∀ (R P : List (List Int)) (m : Int), 0 ≤ m → m + tot R ≤ 1000000 → P.length + R.length ≤ 1000000 → (∀ x ∈ R, x.length = 2) →
    Ev (fun k => laws_heldInt64SS.l0 k (P ++ mkSS m R) m P.length) (m + tot R) := by
  intro R
  induction R with
  | nil =>
    intro P m h0 h1 h2 _
    exact Ev.step (fun k => laws_heldInt64SS.l0.eq_2 ..) (ev_neg (by simp [mkSS]) (ev_ret (by simp [tot])))
  | cons c R ih =>
    intro P m h0 h1 h2 h3
    obtain ⟨p1, p2, p3⟩ := rd_L1_drop (show (P ++ mkI m c.length :: mkSS (m + c.length) R).drop P.length = mkI m c.length :: mkSS (m + c.length) R from drop_mid ..)
    have hc := h3 c (by simp)
    have ht : 0 ≤ tot R := by rw [tot_two R (fun x hx => h3 x (by simp [hx]))]; omega
    simp only [tot, List.length_cons] at h1 h2
    refine Ev.step (fun k => laws_heldInt64SS.l0.eq_2 ..) ?_
    show Ev (fun k => if (P.length : Int) < ((P ++ mkI m c.length :: mkSS (m + c.length) R).length : Int) then _ else _) _
    refine ev_pos p1 (ev_pos (by omega) ?_)
    show Ev (fun k => (laws_heldInt64S.f k (rd_L1 (P ++ mkI m c.length :: mkSS (m + c.length) R) P.length) m).bind _) _
    rw [p2]
    refine (heldInt64S_ev (n := c.length) h0 (by omega)).bind (ev_neg (by omega) ?_)
    rw [w64 (n := (P.length : Int) + 1) (by omega) (by omega)]
    have := ih (P ++ [mkI m c.length]) (m + c.length) (by omega) (by omega) (by simp; omega) (fun x hx => h3 x (by simp [hx]))
    rw [List.append_assoc, List.length_append, show m + (c.length : Int) + tot R = m + (c.length + tot R) by omega] at this
    simpa [mkSS, tot] using this
theorem held_ev (l : List (List Int)) (hl : l.length ≤ 50) (h2 : ∀ x ∈ l, x.length = 2) : Ev (fun k => laws_heldInt64SS.f k (mkSS 101 l) 101) (101 + tot l) := by
  have := held_l0 l [] 101 (by omega) (by rw [tot_two l h2]; omega) (by simp; omega) h2
  have h : Ev (fun k => laws_heldInt64SS.l0 k (mkSS 101 l) 101 0) (101 + tot l) := by simpa using this
  exact h
theorem walk (c : ByteArray) (a1 a2 a3 a4 a5 a6 a7 a8 : Int) (hc : c.size ≤ maxLen) (_ : (Lit.int .i64 a1).wf = true) (_ : (Lit.int .i64 a2).wf = true) (_ : (Lit.int .i64 a3).wf = true) (_ : (Lit.int .i64 a4).wf = true) (_ : (Lit.int .i64 a5).wf = true) (_ : (Lit.int .i64 a6).wf = true) (_ : (Lit.int .i64 a7).wf = true) (_ : (Lit.int .i64 a8).wf = true) (lit : Int) (_ : (Lit.int .i64 lit).wf = true) (W : World) :
    Calls Try.prog 8 #[.agg #[.string c, .int .i64 a1, .int .i64 a2, .int .i64 a3, .int .i64 a4, .int .i64 a5, .int .i64 a6, .int .i64 a7, .int .i64 a8], .int .i64 lit] W fun e w' => e = .returned (.bool true) ∧ Below W.heap.size W w' := by
  by_cases h : c.size ≤ 1000000
  · obtain ⟨t, et, ht⟩ := sz_small a1 a2 a3 a4 a5 a6 a7 a8 h
    obtain ⟨r, t2, ⟨K1, h1⟩, ⟨K2, h2⟩, hl, h3⟩ := both c a1 a2 a3 a4 a5 a6 a7 a8 lit (by omega)
    obtain ⟨K3, h4⟩ := eqSS_ev r hl h3
    obtain ⟨K4, h5⟩ := mSS_ev r hl h3
    obtain ⟨K5, h6⟩ := held_ev r hl h3
    exact go (K1 + K2 + K3 + K4 + K5) c a1 a2 a3 a4 a5 a6 a7 a8 lit t t2 _ r _ W et ht (h1 _ (by omega)) (h2 _ (by omega)) (h4 _ (by omega)) (h5 _ (by omega)) (by rw [tot_two r h3]; omega) (mkSS_len _ _) (h6 _ (by omega))
  · obtain ⟨t, et, ht⟩ := sz_big a1 a2 a3 a4 a5 a6 a7 a8 hc (by omega)
    exact big c a1 a2 a3 a4 a5 a6 a7 a8 lit t W et ht

end Go.Proofs.Ytmepklccbogibaa.GoFnExactShotWindows
