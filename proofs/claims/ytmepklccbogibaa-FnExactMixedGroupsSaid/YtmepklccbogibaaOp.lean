/- Helpers for rows: a struct of one-cell fields, opened field by field. No condition. -/
import Derived.Lib.SmallJoins
import Derived.Deep.Slices
import Derived.SizedLaws
namespace Go.Proofs.Ytmepklccbogibaa.Op
open Go.ChangeShapes Go.WideShapes Go.RowKit Go.Joins Go.Deep
section
variable {H : Type} {enc : TypeId × Value → H} {P : Program} {w : World} {base : Nat} {spare : Nat → Bool} {held : Bool}
theorem open_flds {r : Reach} {b0 : Nat} {t : TypeId} {fs : Array Field} {v : Value} {d : DataW H} {p : List MemPlace} (hs : P.underlying t = some (.struct fs)) (hone : oneCellFields P fs = true) (hC : P.cellsOf t = fs.size)
    (hv : Value.okWide P w r b0 t v) (h : DataW.Trod enc P w base spare held t v d p) :
    ∃ cs : Array Value, v = .agg cs ∧ cs.size = fs.size ∧ ∀ (i : Nat) (f : Field), fs[i]? = some f → ∃ (c : Value) (y : DataW H × List MemPlace) (n : Nat), cs[i]? = some c ∧ DataW.trod enc P w base spare held n f.type [c] = some y := by
  obtain ⟨cs, rfl, hsz⟩ := okWide_struct hs hv
  obtain ⟨fuel, hf⟩ := h
  obtain ⟨xs, n, _, _, _, hlen, hfl⟩ := DataW.trod_struct hs hf
  refine ⟨cs, rfl, hsz.trans hC, fun i f hi => ?_⟩
  have hk := hfl i f hi
  have hi' := (Array.getElem?_eq_some_iff.1 hi).1
  obtain ⟨o0, k0⟩ := hone_of hone i f hi
  have hlt : i < cs.size := by rw [hsz, hC]; exact hi'
  have hxi : xs[i]? = some (xs[i]'(by omega)) := List.getElem?_eq_getElem (by omega)
  refine ⟨cs[i], xs[i]'(by omega), n, Array.getElem?_eq_getElem hlt, ?_⟩
  rw [hxi] at hk
  rw [← hk, o0, k0]
  simp only [Value.cells]
  have : (cs.toList.drop i).take 1 = [cs[i]] := by
    rw [List.drop_eq_getElem_cons (by simpa using hlt)]; simp
  rw [this]
/-- a slice of structs of one-cell fields: its first 'len' elements, field by field -/
theorem open_rows {t e : TypeId} {fs : Array Field} {a : Option Addr} {len cap : Nat} {d : DataW H} {p : List MemPlace} (ht : P.underlying t = some (.slice e)) (hs : P.underlying e = some (.struct fs)) (hone : oneCellFields P fs = true) (hC : P.cellsOf e = fs.size)
    (h : DataW.Trod enc P w base spare held t (.slice a len cap) d p) :
    (a = none ∧ len = 0 ∧ cap = 0) ∨ ∃ x, a = some x ∧ len ≤ cap ∧ cap ≤ maxLen ∧ ∀ i, i < len → ∃ cs : List Value, cs.length = fs.size ∧ (∀ j c, cs[j]? = some c → w.cell? (x.add (i * fs.size + j)) = some c) ∧
      ∀ (j : Nat) (f : Field), fs[j]? = some f → ∃ (c : Value) (y : DataW H × List MemPlace) (n : Nat), cs[j]? = some c ∧ DataW.trod enc P w base spare held n f.type [c] = some y := by
  obtain ⟨fuel, hf⟩ := h
  rcases open_slice ht hf with ⟨hcs, _⟩ | ⟨x, l, c, m, n, D, Pl, hcs, _, hl, hm, hmm, _, hel⟩
  · simp [Value.cells] at hcs
    exact .inl hcs
  · simp [Value.cells] at hcs
    obtain ⟨rfl, rfl, rfl⟩ := hcs
    refine .inr ⟨x, rfl, hl, hm, fun i hi => ?_⟩
    have hmi : i < m := by rw [hmm]; split <;> omega
    obtain ⟨cs, hcells, htr⟩ := hel i hmi
    obtain ⟨xs, n', _, _, hlen, hxl, hfl⟩ := DataW.trod_struct hs htr
    have hlen' : cs.length = fs.size := hlen.trans hC
    refine ⟨cs, hlen', fun j c hj => ?_, fun j f hj => ?_⟩
    · have hj' : j < cs.length := (List.getElem?_eq_some_iff.1 hj).1
      have := (World.cells?_some hcells).2.2 j (by omega)
      rw [hC] at this
      rw [Go.Deep.add_add] at this
      rw [this]; exact hj
    · have hk := hfl j f hj
      have hj' := (Array.getElem?_eq_some_iff.1 hj).1
      obtain ⟨o0, k0⟩ := hone_of hone j f hj
      have hlt : j < cs.length := by omega
      have hxi : xs[j]? = some (xs[j]'(by omega)) := List.getElem?_eq_getElem (by omega)
      refine ⟨cs[j], xs[j]'(by omega), n', List.getElem?_eq_getElem hlt, ?_⟩
      rw [hxi] at hk
      rw [← hk, o0, k0]
      have : (cs.drop j).take 1 = [cs[j]] := by
        rw [List.drop_eq_getElem_cons hlt]; rfl
      rw [this]
theorem sized_rows {t e : TypeId} {a : Option Addr} {len cap : Nat} {d : DataW H} {p : List MemPlace} {ts : List TypeId} {ds : List (DataW H)} {j : Nat} (hsz : (DataW.weightsEach P ts ds).all (· ≤ reachBytes) = true) (hj : ts[j]? = some t) (hd : ds[j]? = some d) (ht : P.underlying t = some (.slice e)) {B : Nat} (hB : P.bytesOf e = B)
    (h : DataW.Trod enc P w base spare held t (.slice a len cap) d p) : len * B ≤ 140737488351232 := by
  obtain ⟨fuel, hf⟩ := h
  rcases open_slice ht hf with ⟨hcs, _⟩ | ⟨x, l, c, m, n, D, Pl, hcs, _, hl, hm, hmm, hx, hel⟩
  · simp [Value.cells] at hcs
    obtain ⟨rfl, rfl, rfl⟩ := hcs
    simp
  · simp [Value.cells] at hcs
    obtain ⟨rfl, rfl, rfl⟩ := hcs
    obtain ⟨hx, _⟩ := Prod.mk.inj hx
    subst hx
    have z := sized_slice hsz hj hd ht
    rw [hB] at z
    have r : reachBytes = 140737488351232 := by decide
    rw [r] at z
    simp only [List.length_map, List.length_range] at z
    have : len * B ≤ (len + (m - len)) * B := Nat.mul_le_mul_right _ (by omega)
    omega
end
theorem list_of {α : Type} (n : Nat) (p : Nat → α → Prop) (h : ∀ i, i < n → ∃ x, p i x) : ∃ l : List α, l.length = n ∧ ∀ i x, l[i]? = some x → p i x := by
  induction n with
  | zero => exact ⟨[], rfl, by simp⟩
  | succ n ih =>
    obtain ⟨l, hl, hp⟩ := ih (fun i hi => h i (by omega))
    obtain ⟨x, hx⟩ := h n (by omega)
    refine ⟨l ++ [x], by simp [hl], fun i y hi => ?_⟩
    by_cases g : i < l.length
    · rw [List.getElem?_append_left g] at hi
      exact hp i y hi
    · rw [List.getElem?_append_right (by omega)] at hi
      have : i - l.length = 0 := by
        rcases Nat.eq_zero_or_pos (i - l.length) with h | h
        · exact h
        · rw [List.getElem?_eq_none (by simp; omega)] at hi; cases hi
      rw [this] at hi
      simp at hi
      subst hi
      have : i = n := by omega
      rw [this]; exact hx
theorem arr2 {α : Type} {cs : Array α} {c0 c1 : α} (h : cs.size = 2) (g0 : cs[0]? = some c0) (g1 : cs[1]? = some c1) : cs = #[c0, c1] := by
  obtain ⟨a, b, rfl⟩ := array2 h
  simp at g0 g1; subst g0 g1; rfl
theorem arr3 {α : Type} {cs : Array α} {c0 c1 c2 : α} (h : cs.size = 3) (g0 : cs[0]? = some c0) (g1 : cs[1]? = some c1) (g2 : cs[2]? = some c2) : cs = #[c0, c1, c2] := by
  obtain ⟨a, b, c, rfl⟩ := array3 h
  simp at g0 g1 g2; subst g0 g1 g2; rfl
theorem arr4 {α : Type} {cs : Array α} {c0 c1 c2 c3 : α} (h : cs.size = 4) (g0 : cs[0]? = some c0) (g1 : cs[1]? = some c1) (g2 : cs[2]? = some c2) (g3 : cs[3]? = some c3) : cs = #[c0, c1, c2, c3] := by
  obtain ⟨a, b, c, d, rfl⟩ := array4 h
  simp at g0 g1 g2 g3; subst g0 g1 g2 g3; rfl
theorem arr9 {α : Type} {cs : Array α} {c0 c1 c2 c3 c4 c5 c6 c7 c8 : α} (h : cs.size = 9) (g0 : cs[0]? = some c0) (g1 : cs[1]? = some c1) (g2 : cs[2]? = some c2) (g3 : cs[3]? = some c3) (g4 : cs[4]? = some c4) (g5 : cs[5]? = some c5) (g6 : cs[6]? = some c6) (g7 : cs[7]? = some c7) (g8 : cs[8]? = some c8) : cs = #[c0, c1, c2, c3, c4, c5, c6, c7, c8] := by
  apply Array.ext_getElem?
  intro i
  match i with
  | 0 => simpa using g0
  | 1 => simpa using g1
  | 2 => simpa using g2
  | 3 => simpa using g3
  | 4 => simpa using g4
  | 5 => simpa using g5
  | 6 => simpa using g6
  | 7 => simpa using g7
  | 8 => simpa using g8
  | i + 9 => rw [Array.getElem?_eq_none (by omega), Array.getElem?_eq_none (by simp)]
end Go.Proofs.Ytmepklccbogibaa.Op
