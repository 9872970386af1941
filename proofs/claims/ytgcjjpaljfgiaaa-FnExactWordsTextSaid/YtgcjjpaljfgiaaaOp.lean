/- Helpers for rows: a struct of one-cell fields, opened field by field. No condition. -/
import Derived.Lib.SmallJoins
namespace Go.Proofs.Ytgcjjpaljfgiaaa.Op
open Go.ChangeShapes Go.WideShapes Go.RowKit Go.Joins Go.Deep
section
variable {H : Type} {enc : TypeId × Value → H} {P : Program} {w : World} {base : Nat} {spare : Nat → Bool} {held : Bool}
theorem open_flds {r : Reach} {b0 : Nat} {t : TypeId} {fs : Array Field} {v : Value} {d : DataW H} {p : List MemPlace} (hs : P.underlying t = some (.struct fs)) (hone : oneCellFields P fs = true) (hC : P.cellsOf t = fs.size)
    (hv : Value.okWide P w r b0 t v) (h : DataW.Trod enc P w base spare held t v d p) :
    ∃ cs : Array Value, v = .agg cs ∧ cs.size = fs.size ∧ ∀ (i : Nat) (f : Field), fs[i]? = some f → ∃ (c : Value) (y : DataW H × List MemPlace) (n : Nat), cs[i]? = some c ∧ DataW.trod enc P w base spare held n f.type [c] = some y := by
  obtain ⟨cs, rfl, hsz⟩ := okWide_struct hs hv
  obtain ⟨fuel, hf⟩ := h
  obtain ⟨xs, n, _, _, _, hlen, hfl⟩ := DataW.trod_struct hs hf
  refine ⟨cs, rfl, hsz.trans hC, fun i f hi => ?_⟩
  have hk := hfl i f hi
  have hi' := (Array.getElem?_eq_some_iff.1 hi).1
  obtain ⟨o0, k0⟩ := hone_of hone i f hi
  have hlt : i < cs.size := by rw [hsz, hC]; exact hi'
  have hxi : xs[i]? = some (xs[i]'(by omega)) := List.getElem?_eq_getElem (by omega)
  refine ⟨cs[i], xs[i]'(by omega), n, Array.getElem?_eq_getElem hlt, ?_⟩
  rw [hxi] at hk
  rw [← hk, o0, k0]
  simp only [Value.cells]
  have : (cs.toList.drop i).take 1 = [cs[i]] := by
    rw [List.drop_eq_getElem_cons (by simpa using hlt)]; simp
  rw [this]
end
theorem arr2 {α : Type} {cs : Array α} {c0 c1 : α} (h : cs.size = 2) (g0 : cs[0]? = some c0) (g1 : cs[1]? = some c1) : cs = #[c0, c1] := by
  obtain ⟨a, b, rfl⟩ := array2 h
  simp at g0 g1; subst g0 g1; rfl
theorem arr3 {α : Type} {cs : Array α} {c0 c1 c2 : α} (h : cs.size = 3) (g0 : cs[0]? = some c0) (g1 : cs[1]? = some c1) (g2 : cs[2]? = some c2) : cs = #[c0, c1, c2] := by
  obtain ⟨a, b, c, rfl⟩ := array3 h
  simp at g0 g1 g2; subst g0 g1 g2; rfl
theorem arr4 {α : Type} {cs : Array α} {c0 c1 c2 c3 : α} (h : cs.size = 4) (g0 : cs[0]? = some c0) (g1 : cs[1]? = some c1) (g2 : cs[2]? = some c2) (g3 : cs[3]? = some c3) : cs = #[c0, c1, c2, c3] := by
  obtain ⟨a, b, c, d, rfl⟩ := array4 h
  simp at g0 g1 g2 g3; subst g0 g1 g2 g3; rfl
theorem arr9 {α : Type} {cs : Array α} {c0 c1 c2 c3 c4 c5 c6 c7 c8 : α} (h : cs.size = 9) (g0 : cs[0]? = some c0) (g1 : cs[1]? = some c1) (g2 : cs[2]? = some c2) (g3 : cs[3]? = some c3) (g4 : cs[4]? = some c4) (g5 : cs[5]? = some c5) (g6 : cs[6]? = some c6) (g7 : cs[7]? = some c7) (g8 : cs[8]? = some c8) : cs = #[c0, c1, c2, c3, c4, c5, c6, c7, c8] := by
  apply Array.ext_getElem?
  intro i
  match i with
  | 0 => simpa using g0
  | 1 => simpa using g1
  | 2 => simpa using g2
  | 3 => simpa using g3
  | 4 => simpa using g4
  | 5 => simpa using g5
  | 6 => simpa using g6
  | 7 => simpa using g7
  | 8 => simpa using g8
  | i + 9 => rw [Array.getElem?_eq_none (by omega), Array.getElem?_eq_none (by simp)]
end Go.Proofs.Ytgcjjpaljfgiaaa.Op
