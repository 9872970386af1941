/- Plain mathematics for the proofs of this seat: strings as lists of codes, decimals, splitting, joining, sorting, and steps of functions with rounds. No condition of the program's. -/
import Derived.Test.YtmepklccbogibaaV
namespace Go.Proofs.Ytmepklccbogibaa.Ma
open Go.RowKit Go.Proofs.YtmepklccbogibaaW.PrintWords

/-! ### rounds -/
section
variable {α β : Type}
theorem ev_pos {c : Prop} [Decidable c] {f g : Nat → Option α} {r : α} (h : c) (e : Ev f r) : Ev (fun k => if c then f k else g k) r := by simpa only [if_pos h] using e
theorem ev_neg {c : Prop} [Decidable c] {f g : Nat → Option α} {r : α} (h : ¬ c) (e : Ev g r) : Ev (fun k => if c then f k else g k) r := by simpa only [if_neg h] using e
theorem ev_bind0 {o : Option β} {f : Nat → β → Option α} {b : β} {r : α} (h : o = some b) (e : Ev (fun k => f k b) r) : Ev (fun k => o.bind (f k)) r := by
  subst h; exact e
theorem ev_ret {a r : α} (h : a = r) : Ev (fun _ => some a) r := h ▸ Ev.now a
theorem ev_const {o : Option α} {r : α} (h : o = some r) : Ev (fun _ => o) r := h ▸ Ev.now r
theorem ev_uniq {f : Nat → Option α} {a b : α} (h : Ev f a) (k : Ev f b) : a = b := by
  obtain ⟨K, h⟩ := h
  obtain ⟨K', k⟩ := k
  have h1 := h (max K K') (by omega)
  have h2 := k (max K K') (by omega)
  rw [h1] at h2
  exact Option.some.inj h2
end
theorem w64 {n : Int} (h : -9223372036854775808 ≤ n) (h' : n ≤ 9223372036854775807) : wrap64 n = n := by unfold wrap64; omega
theorem bd64 {n : Int} (h : (Lit.int .i64 n).wf = true) : -9223372036854775808 ≤ n ∧ n ≤ 9223372036854775807 := by
  simp [Lit.wf, IntKind.min, IntKind.max, IntKind.signed, IntKind.bits] at h
  omega
theorem bd8 {n : Int} (h : (Lit.int .u8 n).wf = true) : 0 ≤ n ∧ n ≤ 255 := by
  simp [Lit.wf, IntKind.min, IntKind.max, IntKind.signed, IntKind.bits] at h
  omega
/-! strings as lists of codes -/
def byte (c : Int) : Prop := 0 ≤ c ∧ c ≤ 255
theorem bo_inj {a b : ByteArray} (h : bytesOf a = bytesOf b) : a = b := by
  apply ByteArray.ext
  apply Array.ext'
  unfold bytesOf at h
  exact List.map_inj_right (fun x y hxy => UInt8.toNat_inj.1 (by omega)) |>.1 h
theorem bo_eq {a b : ByteArray} : a = b ↔ bytesOf a = bytesOf b := ⟨fun h => by rw [h], bo_inj⟩
theorem bo_app (a b : ByteArray) : bytesOf (a ++ b) = bytesOf a ++ bytesOf b := by
  unfold bytesOf; rw [ByteArray.data_append, Array.toList_append, List.map_append]
theorem bo_ext (s : ByteArray) (i j : Nat) : bytesOf (s.extract i j) = ((bytesOf s).take j).drop i := by
  unfold bytesOf; rw [ByteArray.data_extract, Array.toList_extract, List.extract_eq_drop_take']
  simp [List.map_take, List.map_drop]
theorem bo_byte (s : ByteArray) : ∀ c ∈ bytesOf s, byte c := by
  intro c hc
  unfold bytesOf at hc
  obtain ⟨b, _, rfl⟩ := List.mem_map.1 hc
  have := b.toNat_lt
  unfold byte; omega
theorem bo_of (xs : List Int) (h : ∀ c ∈ xs, byte c) : bytesOf (strOfNums xs) = xs := by
  unfold bytesOf strOfNums
  simp only [List.map_map]
  conv => rhs; rw [← List.map_id xs]
  apply List.map_congr_left
  intro c hc
  have := h c hc
  unfold byte at this
  simp only [Function.comp_apply, UInt8.toNat_ofNat', id]
  omega
theorem of_bo (s : ByteArray) : strOfNums (bytesOf s) = s := bo_inj (bo_of _ (bo_byte s))
theorem bo_nil : bytesOf ⟨#[]⟩ = [] := rfl
theorem bo_size (s : ByteArray) : (s.size : Int) = ((bytesOf s).length : Int) := by rw [bytesOf_length]
theorem bt_bo (s : ByteArray) (i : Int) : bt s i = rd (bytesOf s) i := (rd_bytesOf s i).symm

/-! ### what is left of a list -/
theorem drop_nil {α : Type} {L : List α} {i : Nat} (h : L.drop i = []) : L.length ≤ i := List.drop_eq_nil_iff.1 h
theorem drop_cons {α : Type} {L R : List α} {i : Nat} {c : α} (h : L.drop i = c :: R) : i < L.length ∧ L[i]? = some c ∧ L.drop (i + 1) = R := by
  have hi : i < L.length := by
    rcases Nat.lt_or_ge i L.length with h' | h'
    · exact h'
    · rw [List.drop_eq_nil_of_le h'] at h; cases h
  rw [List.drop_eq_getElem_cons hi] at h
  injection h with h1 h2
  exact ⟨hi, by rw [List.getElem?_eq_getElem hi, h1], h2⟩
theorem rd_drop {L R : List Int} {i : Nat} {c : Int} (h : L.drop i = c :: R) : i < L.length ∧ rd L i = c ∧ L.drop (i + 1) = R := by
  obtain ⟨h1, h2, h3⟩ := drop_cons h
  refine ⟨h1, ?_, h3⟩
  unfold rd
  rw [Int.toNat_natCast, List.getD_eq_getElem?_getD, h2]; rfl
theorem rdOf_drop {α : Type} {d : α} {L R : List α} {i : Nat} {c : α} (h : L.drop i = c :: R) : i < L.length ∧ rdOf d L i = c ∧ L.drop (i + 1) = R := by
  obtain ⟨h1, h2, h3⟩ := drop_cons h
  refine ⟨h1, ?_, h3⟩
  unfold rdOf
  rw [Int.toNat_natCast, List.getD_eq_getElem?_getD, h2]; rfl
theorem bt_drop {s : ByteArray} {R : List Int} {i : Nat} {c : Int} (h : (bytesOf s).drop i = c :: R) : i < s.size ∧ bt s i = c ∧ (bytesOf s).drop (i + 1) = R := by
  obtain ⟨h1, h2, h3⟩ := rd_drop h
  rw [bytesOf_length] at h1
  exact ⟨h1, by rw [bt_bo, h2], h3⟩
theorem bo_drop_nil {s : ByteArray} {i : Nat} (h : (bytesOf s).drop i = []) : s.size ≤ i := by have := drop_nil h; rwa [bytesOf_length] at this
theorem snoc_take {α : Type} {L R : List α} {i : Nat} {c : α} (h : L.drop i = c :: R) : L.take (i + 1) = L.take i ++ [c] := by
  obtain ⟨h1, h2, _⟩ := drop_cons h
  rw [List.take_add_one, h2]; rfl
theorem toList_eq {a b : ByteArray} : a.toList = b.toList ↔ a = b := by
  rw [ByteArray.toList_eq, ByteArray.toList_eq]
  exact ⟨fun h => ByteArray.ext (Array.ext' h), fun h => by rw [h]⟩
/-! decimal -/
def Dig (c : Int) : Prop := 48 ≤ c ∧ c ≤ 57
def val (l : List Int) : Int := l.foldl (fun a c => 10 * a + (c - 48)) 0
def dec (n : Nat) : List Int := if n < 10 then [48 + (n : Int)] else dec (n / 10) ++ [48 + ((n % 10 : Nat) : Int)]
termination_by n
decreasing_by omega

theorem val_snoc (l : List Int) (c : Int) : val (l ++ [c]) = 10 * val l + (c - 48) := by simp [val]
theorem val_nil : val [] = 0 := rfl
theorem dec_small {n : Nat} (h : n < 10) : dec n = [48 + (n : Int)] := by rw [dec]; simp [h]
theorem dec_big {n : Nat} (h : 10 ≤ n) : dec n = dec (n / 10) ++ [48 + ((n % 10 : Nat) : Int)] := by rw [dec]; simp [show ¬ n < 10 by omega]
theorem dec_dig (n : Nat) : ∀ c ∈ dec n, Dig c := by
  induction n using Nat.strongRecOn with
  | ind n ih =>
    by_cases h : n < 10
    · rw [dec_small h]; intro c hc; simp only [List.mem_singleton] at hc; subst hc; unfold Dig; omega
    · rw [dec_big (by omega)]; intro c hc
      rcases List.mem_append.1 hc with hc | hc
      · exact ih _ (by omega) c hc
      · simp only [List.mem_singleton] at hc; subst hc; unfold Dig; omega
theorem val_dec (n : Nat) : val (dec n) = n := by
  induction n using Nat.strongRecOn with
  | ind n ih =>
    by_cases h : n < 10
    · rw [dec_small h]; show 10 * 0 + _ = _; omega
    · rw [dec_big (by omega), val_snoc, ih _ (by omega)]; omega
theorem dec_ne (n : Nat) : dec n ≠ [] := by
  by_cases h : n < 10
  · rw [dec_small h]; simp
  · rw [dec_big (by omega)]; simp
theorem dec_len_pos (n : Nat) : 1 ≤ (dec n).length := by
  have := dec_ne n
  cases h : dec n with
  | nil => exact absurd h this
  | cons a l => simp
theorem head_app {l r : List Int} (h : l ≠ []) : (l ++ r).head? = l.head? := by
  cases l with
  | nil => exact absurd rfl h
  | cons a t => rfl
theorem dec_head (n : Nat) (hn : 1 ≤ n) : ∀ c, (dec n).head? = some c → c ≠ 48 := by
  induction n using Nat.strongRecOn with
  | ind n ih =>
    by_cases h : n < 10
    · rw [dec_small h]; intro c hc; simp only [List.head?_cons, Option.some.injEq] at hc; subst hc; omega
    · rw [dec_big (by omega)]; intro c hc
      rw [head_app (dec_ne _)] at hc
      exact ih _ (by omega) (by omega) c hc
theorem dec_len_le (k n : Nat) (h : n < 10 ^ (k + 1)) : (dec n).length ≤ k + 1 := by
  induction k generalizing n with
  | zero => rw [dec_small (by simpa using h)]; simp
  | succ k ih =>
    by_cases h1 : n < 10
    · rw [dec_small h1]; simp
    · rw [dec_big (by omega), List.length_append]
      have := ih (n / 10) (by rw [Nat.pow_succ] at h; omega)
      simp; omega
theorem dec_len_gt (k n : Nat) (h : 10 ^ k ≤ n) : k < (dec n).length := by
  induction k generalizing n with
  | zero => exact dec_len_pos n
  | succ k ih =>
    have h2 : 10 ^ k * 10 ≤ n := by rw [← Nat.pow_succ]; exact h
    have hp : 0 < 10 ^ k := Nat.pow_pos (by omega)
    rw [dec_big (by omega), List.length_append]
    have := ih (n / 10) (by omega)
    simp; omega
theorem val_lt (l : List Int) (h : ∀ c ∈ l, Dig c) : 0 ≤ val l ∧ val l < (10 : Int) ^ l.length := by
  induction hl : l.length generalizing l with
  | zero => obtain rfl := List.eq_nil_of_length_eq_zero hl; simp [val]
  | succ m ih =>
    obtain ⟨l', c, rfl⟩ : ∃ l' c, l = l' ++ [c] := ⟨l.dropLast, l.getLast (by intro e; simp [e] at hl), (List.dropLast_concat_getLast _).symm⟩
    have h1 := ih l' (fun c hc => h c (List.mem_append_left _ hc)) (by simpa using hl)
    have h2 := h c (by simp)
    unfold Dig at h2
    rw [val_snoc, Int.pow_succ]; omega
/-- What is read is what was written. -/
theorem dec_val (l : List Int) (h : ∀ c ∈ l, Dig c) (hne : l ≠ []) (hz : l.head? = some 48 → l.length = 1) : dec (val l).toNat = l ∧ (2 ≤ l.length → 10 ≤ val l) := by
  induction hl : l.length generalizing l with
  | zero => exact absurd (List.eq_nil_of_length_eq_zero hl) hne
  | succ m ih =>
    obtain ⟨l', c, rfl⟩ : ∃ l' c, l = l' ++ [c] := ⟨l.dropLast, l.getLast hne, (List.dropLast_concat_getLast _).symm⟩
    have hc := h c (by simp)
    unfold Dig at hc
    rw [val_snoc]
    by_cases h0 : l' = []
    · subst h0
      rw [val_nil, dec_small (by omega)]
      refine ⟨?_, fun h => by simp at hl; omega⟩
      simp only [List.nil_append]
      congr 1; omega
    · have hl' : l'.length = m := by simpa using hl
      have hlp : 1 ≤ l'.length := by cases l' with | nil => exact absurd rfl h0 | cons => simp
      have h1 := ih l' (fun c hc => h c (List.mem_append_left _ hc)) h0 (by
        intro hd
        have h3 := hz (by rw [head_app h0]; exact hd)
        rw [List.length_append, List.length_singleton] at h3; omega) hl'
      have hv : 1 ≤ val l' := by
        by_cases h2 : 2 ≤ l'.length
        · have := h1.2 (by omega); omega
        · obtain ⟨d, rfl⟩ : ∃ d, l' = [d] := by
            cases l' with
            | nil => exact absurd rfl h0
            | cons d t => cases t with
              | nil => exact ⟨d, rfl⟩
              | cons => simp at h2
          have hd := h d (by simp)
          unfold Dig at hd
          have : d ≠ 48 := by
            intro e
            have := hz (by simp [e])
            simp at this
          show 1 ≤ 10 * 0 + _
          omega
      rw [dec_big (by omega), show (10 * val l' + (c - 48)).toNat / 10 = (val l').toNat by omega, h1.1, show (((10 * val l' + (c - 48)).toNat % 10 : Nat) : Int) = c - 48 by omega]
      refine ⟨?_, fun _ => by omega⟩
      congr 2; omega
theorem dec_inj {a b : Nat} (h : dec a = dec b) : a = b := by have := congrArg val h; rw [val_dec, val_dec] at this; omega
/-! splitting and joining -/
def spl (b : Int) : List Int → List Int → List (List Int)
  | cur, [] => [cur]
  | cur, c :: l => if c = b then cur :: spl b [] l else spl b (cur ++ [c]) l
def joi (b : Int) : List (List Int) → List Int
  | [] => []
  | [w] => w
  | w :: ws => w ++ b :: joi b ws
theorem joi_cons (b : Int) (w : List Int) {ws : List (List Int)} (h : ws ≠ []) : joi b (w :: ws) = w ++ b :: joi b ws := by
  cases ws with
  | nil => exact absurd rfl h
  | cons a t => rfl
theorem spl_ne (b : Int) : ∀ (l cur : List Int), spl b cur l ≠ []
  | [], cur => by simp [spl]
  | c :: l, cur => by
    unfold spl
    split
    · simp
    · exact spl_ne b l _
theorem joi_spl (b : Int) : ∀ (l cur : List Int), joi b (spl b cur l) = cur ++ l
  | [], cur => by simp [spl, joi]
  | c :: l, cur => by
    unfold spl
    split
    · rename_i h
      rw [joi_cons b _ (spl_ne b l []), joi_spl b l [], h]; simp
    · rw [joi_spl b l]; simp
theorem spl_word (b : Int) : ∀ (w cur : List Int), b ∉ w → spl b cur w = [cur ++ w]
  | [], cur, _ => by simp [spl]
  | c :: w, cur, h => by
    have hc : c ≠ b := fun e => h (by simp [e])
    unfold spl
    rw [if_neg hc, spl_word b w _ (fun hm => h (by simp [hm]))]; simp
theorem spl_word_sep (b : Int) : ∀ (w cur l : List Int), b ∉ w → spl b cur (w ++ b :: l) = (cur ++ w) :: spl b [] l
  | [], cur, l, _ => by simp [spl]
  | c :: w, cur, l, h => by
    have hc : c ≠ b := fun e => h (by simp [e])
    rw [List.cons_append, spl.eq_2, if_neg hc, spl_word_sep b w _ l (fun hm => h (by simp [hm]))]; simp
theorem spl_joi (b : Int) : ∀ (ws : List (List Int)), ws ≠ [] → (∀ w ∈ ws, b ∉ w) → spl b [] (joi b ws) = ws
  | [], h, _ => absurd rfl h
  | [w], _, h => by
    have := spl_word b w [] (h w (by simp))
    simpa [joi] using this
  | w :: v :: ws, _, h => by
    rw [joi_cons b w (by simp), spl_word_sep b w [] _ (h w (by simp)), spl_joi b (v :: ws) (by simp) (fun x hx => h x (by simp only [List.mem_cons] at hx ⊢; exact .inr hx))]; simp
theorem spl_mem_not (b : Int) : ∀ (l cur : List Int), b ∉ cur → ∀ w ∈ spl b cur l, b ∉ w
  | [], cur, h, w, hw => by simp [spl] at hw; subst hw; exact h
  | c :: l, cur, h, w, hw => by
    unfold spl at hw
    split at hw
    · rcases List.mem_cons.1 hw with rfl | hw
      · exact h
      · exact spl_mem_not b l [] (by simp) w hw
    · rename_i hc
      refine spl_mem_not b l _ ?_ w hw
      simp only [List.mem_append, List.mem_singleton, not_or]
      exact ⟨h, fun e => hc e.symm⟩
/-! sorting by insertion -/
def ins (x : Int) : List Int → List Int
  | [] => [x]
  | y :: l => if y ≤ x then y :: ins x l else x :: y :: l
def srt (l : List Int) : List Int := l.foldl (fun a x => ins x a) []
def Asc (l : List Int) : Prop := l.Pairwise (· ≤ ·)
theorem ins_perm (x : Int) : ∀ l, (ins x l).Perm (x :: l)
  | [] => .refl _
  | y :: l => by
    unfold ins
    split
    · exact ((ins_perm x l).cons y).trans (.swap x y l)
    · exact .refl _
theorem ins_asc (x : Int) : ∀ l, Asc l → Asc (ins x l)
  | [], _ => by simp [ins, Asc]
  | y :: l, h => by
    unfold Asc at h ⊢
    have h' := List.pairwise_cons.1 h
    unfold ins
    split
    · rename_i hy
      refine List.pairwise_cons.2 ⟨fun z hz => ?_, ins_asc x l h'.2⟩
      rcases List.mem_cons.1 ((ins_perm x l).mem_iff.1 hz) with rfl | hz
      · exact hy
      · exact h'.1 z hz
    · refine List.pairwise_cons.2 ⟨fun z hz => ?_, h⟩
      rcases List.mem_cons.1 hz with rfl | hz
      · omega
      · have := h'.1 z hz; omega
theorem srt_snoc (l : List Int) (x : Int) : srt (l ++ [x]) = ins x (srt l) := by simp [srt]
theorem foldl_perm : ∀ (l a : List Int), (l.foldl (fun a x => ins x a) a).Perm (l ++ a)
  | [], a => .refl _
  | x :: l, a => by
    rw [List.foldl_cons]
    refine (foldl_perm l _).trans ?_
    refine ((ins_perm x a).append_left l).trans ?_
    rw [List.cons_append]
    exact List.perm_middle
theorem srt_perm (l : List Int) : (srt l).Perm l := by
  have := foldl_perm l []
  simpa [srt] using this
theorem foldl_asc : ∀ (l a : List Int), Asc a → Asc (l.foldl (fun a x => ins x a) a)
  | [], _, h => h
  | x :: l, a, h => foldl_asc l _ (ins_asc x a h)
theorem srt_asc (l : List Int) : Asc (srt l) := foldl_asc l [] (by simp [Asc])
theorem asc_uniq {a b : List Int} (ha : Asc a) (hb : Asc b) (h : a.Perm b) : a = b := List.Perm.eq_of_pairwise (le := (· ≤ ·)) (fun x y _ _ h1 h2 => by omega) ha hb h
theorem srt_of_asc {l : List Int} (h : Asc l) : srt l = l := asc_uniq (srt_asc l) h (srt_perm l)
theorem sum_perm {a b : List Int} (h : a.Perm b) : a.sum = b.sum := by
  induction h with
  | nil => rfl
  | cons x _ ih => simp [ih]
  | swap x y l => simp; omega
  | trans _ _ h1 h2 => exact h1.trans h2
/-- one insertion as the program's inner loop does it: x stands at the place k of a list, what lies behind it up to there is greater -/
theorem ins_split (x : Int) (p q : List Int) (hp : ∀ y ∈ p, y ≤ x) (hq : ∀ y, q.head? = some y → x < y) : ins x (p ++ q) = p ++ x :: q := by
  induction p with
  | nil =>
    cases q with
    | nil => rfl
    | cons y q =>
      have := hq y rfl
      simp only [List.nil_append, ins]
      rw [if_neg (by omega)]
  | cons y p ih =>
    have h1 := hp y (by simp)
    simp only [List.cons_append, ins]
    rw [if_pos h1, ih (fun z hz => hp z (by simp [hz]))]

end Go.Proofs.Ytmepklccbogibaa.Ma
