-- Written by a program of this project's session, after the kit's print (a turned copy of its programs). Lean checks it.
import Derived.Test.YtgcjjpaljfgiaaaQFnWordsx0
import Derived.Test.YtgcjjpaljfgiaaaQFnWordsx1
import Derived.Test.YtgcjjpaljfgiaaaQFnWordsx2
import Derived.Test.YtgcjjpaljfgiaaaQFnWordsx3
import Derived.Test.YtgcjjpaljfgiaaaQFnWordsx4
namespace Go.Proofs.Ytgcjjpaljfgiaaa.QFnWords
open Go.RowKit Go.Proofs.YtgcjjpaljfgiaaaW.PrintWords Go.Proofs.YtgcjjpaljfgiaaaW.PrintLast Go.Proofs.YtgcjjpaljfgiaaaW.PrintMore
attribute [local go_sem] max2_int min2_int max_two min_two max_three min_three max_four min_four   -- for this text's walks alone
set_option linter.unusedVariables false
set_option linter.unusedSimpArgs false

/-! ### laws_FnWords: function 15 -/
mutual
def laws_FnWords.j0 : Nat → List ByteArray → ByteArray → Int → ByteArray → List ByteArray → Int → Bool → Option (Bool)
  | 0, _, _, _, _, _, _, _ => none
  | k + 1, x3, x4, x5, x8, x9, x10, x61 => if x61 = true then (some false) else (if x10 = 0 then ((impl_WordsText.f k x9).bind fun bt242 => (if bt242.2 = 0 then (if bt242.1.toList = x8.toList then (laws_FnWords.j1 k x3 x4 x5) else (some false)) else (some false))) else (laws_FnWords.j1 k x3 x4 x5))
def laws_FnWords.j1 : Nat → List ByteArray → ByteArray → Int → Option (Bool)
  | 0, _, _, _ => none
  | k + 1, x3, x4, x5 => if x5 = 0 then ((impl_ReadWords.f k x4).bind fun bt244 => (if bt244.2 = 0 then ((laws_likeTexts.f k bt244.1 x3).bind fun t248 => (some t248)) else (some false))) else (some true)
end
def laws_FnWords.f (k : Nat) (l0 : List Int) : Option (Bool) := (laws_big.f l0).bind fun t224 => (if t224 = true then (some true) else ((spec_DrawWordsText.f k l0).bind fun t225 => ((impl_WordsText.f k t225).bind fun bt228 => ((spec_WordsText.f k t225).bind fun bt230 => ((spec_DrawReadWords.f k l0).bind fun t232 => ((impl_ReadWords.f k t232).bind fun bt233 => ((spec_ReadWords.f k t232).bind fun bt237 => (if bt228.2 = bt230.2 then (if bt228.1.toList = bt230.1.toList then (if bt233.2 = bt237.2 then ((laws_likeTexts.f k bt233.1 bt237.1).bind fun t241 => (laws_FnWords.j0 k t225 bt228.1 bt228.2 t232 bt233.1 bt233.2 (!t241))) else (laws_FnWords.j0 k t225 bt228.1 bt228.2 t232 bt233.1 bt233.2 true)) else (laws_FnWords.j0 k t225 bt228.1 bt228.2 t232 bt233.1 bt233.2 true)) else (laws_FnWords.j0 k t225 bt228.1 bt228.2 t232 bt233.1 bt233.2 true)))))))))
theorem laws_FnWords.mono_l : ∀ k, (∀ y0 y1 y2 y3 y4 y5 y6, LeO (laws_FnWords.j0 k y0 y1 y2 y3 y4 y5 y6) (laws_FnWords.j0 (k + 1) y0 y1 y2 y3 y4 y5 y6)) ∧ (∀ y0 y1 y2, LeO (laws_FnWords.j1 k y0 y1 y2) (laws_FnWords.j1 (k + 1) y0 y1 y2))
  | 0 => ⟨fun _ _ _ _ _ _ _ r h => by simp [laws_FnWords.j0] at h, fun _ _ _ r h => by simp [laws_FnWords.j1] at h⟩
  | k + 1 => by
    obtain ⟨ih0, ih1⟩ := laws_FnWords.mono_l k
    refine ⟨?_, ?_⟩
    · intro y0 y1 y2 y3 y4 y5 y6
      unfold laws_FnWords.j0
      repeat' first
      | (with_reducible exact ih0 _ _ _ _ _ _ _)
      | (with_reducible exact ih1 _ _ _)
      | (with_reducible exact impl_ReadWords.mono _ _)
      | (with_reducible exact impl_WordsText.mono _ _)
      | (with_reducible exact laws_likeTexts.mono _ _ _)
      | (with_reducible exact spec_DrawReadWords.mono _ _)
      | (with_reducible exact spec_DrawWordsText.mono _ _)
      | (with_reducible exact spec_ReadWords.mono _ _)
      | (with_reducible exact spec_WordsText.mono _ _)
      | (with_reducible exact LeO.refl _)
      | (with_reducible exact LeO.none _)
      | (with_reducible refine LeO.ite ?_ ?_)
      | (with_reducible refine LeO.bind ?_ (fun _ => ?_))
      | exact ih0 _ _ _ _ _ _ _
      | exact ih1 _ _ _
      | exact impl_ReadWords.mono _ _
      | exact impl_WordsText.mono _ _
      | exact laws_likeTexts.mono _ _ _
      | exact spec_DrawReadWords.mono _ _
      | exact spec_DrawWordsText.mono _ _
      | exact spec_ReadWords.mono _ _
      | exact spec_WordsText.mono _ _
      | exact LeO.none _
      | refine LeO.ite ?_ ?_
      | refine LeO.bind ?_ (fun _ => ?_)
    · intro y0 y1 y2
      unfold laws_FnWords.j1
      repeat' first
      | (with_reducible exact ih0 _ _ _ _ _ _ _)
      | (with_reducible exact ih1 _ _ _)
      | (with_reducible exact impl_ReadWords.mono _ _)
      | (with_reducible exact impl_WordsText.mono _ _)
      | (with_reducible exact laws_likeTexts.mono _ _ _)
      | (with_reducible exact spec_DrawReadWords.mono _ _)
      | (with_reducible exact spec_DrawWordsText.mono _ _)
      | (with_reducible exact spec_ReadWords.mono _ _)
      | (with_reducible exact spec_WordsText.mono _ _)
      | (with_reducible exact LeO.refl _)
      | (with_reducible exact LeO.none _)
      | (with_reducible refine LeO.ite ?_ ?_)
      | (with_reducible refine LeO.bind ?_ (fun _ => ?_))
      | exact ih0 _ _ _ _ _ _ _
      | exact ih1 _ _ _
      | exact impl_ReadWords.mono _ _
      | exact impl_WordsText.mono _ _
      | exact laws_likeTexts.mono _ _ _
      | exact spec_DrawReadWords.mono _ _
      | exact spec_DrawWordsText.mono _ _
      | exact spec_ReadWords.mono _ _
      | exact spec_WordsText.mono _ _
      | exact LeO.none _
      | refine LeO.ite ?_ ?_
      | refine LeO.bind ?_ (fun _ => ?_)
theorem laws_FnWords.mono : ∀ a0 k, LeO (laws_FnWords.f k a0) (laws_FnWords.f (k + 1) a0) := by
  intro a0 k
  obtain ⟨ih0, ih1⟩ := laws_FnWords.mono_l k
  unfold laws_FnWords.f
  repeat' first
      | (with_reducible exact ih0 _ _ _ _ _ _ _)
      | (with_reducible exact ih1 _ _ _)
      | (with_reducible exact impl_ReadWords.mono _ _)
      | (with_reducible exact impl_WordsText.mono _ _)
      | (with_reducible exact laws_likeTexts.mono _ _ _)
      | (with_reducible exact spec_DrawReadWords.mono _ _)
      | (with_reducible exact spec_DrawWordsText.mono _ _)
      | (with_reducible exact spec_ReadWords.mono _ _)
      | (with_reducible exact spec_WordsText.mono _ _)
      | (with_reducible exact LeO.refl _)
      | (with_reducible exact LeO.none _)
      | (with_reducible refine LeO.ite ?_ ?_)
      | (with_reducible refine LeO.bind ?_ (fun _ => ?_))
      | exact ih0 _ _ _ _ _ _ _
      | exact ih1 _ _ _
      | exact impl_ReadWords.mono _ _
      | exact impl_WordsText.mono _ _
      | exact laws_likeTexts.mono _ _ _
      | exact spec_DrawReadWords.mono _ _
      | exact spec_DrawWordsText.mono _ _
      | exact spec_ReadWords.mono _ _
      | exact spec_WordsText.mono _ _
      | exact LeO.none _
      | refine LeO.ite ?_ ?_
      | refine LeO.bind ?_ (fun _ => ?_)
set_option maxHeartbeats 8000000 in
set_option maxRecDepth 100000 in
theorem laws_FnWords.calls (k : Nat) (A0 : Option Addr) (c0 : Nat) (l0 : List Int) (r : Bool) (w : World) (hr0 : Kd.C (Kd.int .u8) w A0 l0.length l0) (hc0 : l0.length ≤ c0) (h : laws_FnWords.f k l0 = some r) (hr_ : Aside0 (r = true)) :
    Calls Try.prog 15 #[.slice A0 l0.length c0] w fun e w' => e = .returned (.bool r) ∧ Below w.heap.size w w' := by
  have HR0 := Aside0.mk hr0
  have HC0 := Aside0.mk hc0
  clear hr0 hc0
  have HB := Aside0.mk (Below.refl w.heap.size w)
  have H : ((laws_big.f l0).bind fun t224 => (if t224 = true then (some true) else ((spec_DrawWordsText.f k l0).bind fun t225 => ((impl_WordsText.f k t225).bind fun bt228 => ((spec_WordsText.f k t225).bind fun bt230 => ((spec_DrawReadWords.f k l0).bind fun t232 => ((impl_ReadWords.f k t232).bind fun bt233 => ((spec_ReadWords.f k t232).bind fun bt237 => (if bt228.2 = bt230.2 then (if bt228.1.toList = bt230.1.toList then (if bt233.2 = bt237.2 then ((laws_likeTexts.f k bt233.1 bt237.1).bind fun t241 => (laws_FnWords.j0 k t225 bt228.1 bt228.2 t232 bt233.1 bt233.2 (!t241))) else (laws_FnWords.j0 k t225 bt228.1 bt228.2 t232 bt233.1 bt233.2 true)) else (laws_FnWords.j0 k t225 bt228.1 bt228.2 t232 bt233.1 bt233.2 true)) else (laws_FnWords.j0 k t225 bt228.1 bt228.2 t232 bt233.1 bt233.2 true)))))))))) = some r := h
  clear h
  replace H := Option.bind_eq_some_iff.mp H
  obtain ⟨t224, A20, H⟩ := H
  replace H : (if t224 = true then (some true) else ((spec_DrawWordsText.f k l0).bind fun t225 => ((impl_WordsText.f k t225).bind fun bt228 => ((spec_WordsText.f k t225).bind fun bt230 => ((spec_DrawReadWords.f k l0).bind fun t232 => ((impl_ReadWords.f k t232).bind fun bt233 => ((spec_ReadWords.f k t232).bind fun bt237 => (if bt228.2 = bt230.2 then (if bt228.1.toList = bt230.1.toList then (if bt233.2 = bt237.2 then ((laws_likeTexts.f k bt233.1 bt237.1).bind fun t241 => (laws_FnWords.j0 k t225 bt228.1 bt228.2 t232 bt233.1 bt233.2 (!t241))) else (laws_FnWords.j0 k t225 bt228.1 bt228.2 t232 bt233.1 bt233.2 true)) else (laws_FnWords.j0 k t225 bt228.1 bt228.2 t232 bt233.1 bt233.2 true)) else (laws_FnWords.j0 k t225 bt228.1 bt228.2 t232 bt233.1 bt233.2 true))))))))) = some r := H
  have A2 := Aside0.mk A20
  clear A20
  by_cases c3 : t224 = true
  · subst c3
    have H1 : (some true) = some r := by rw [if_pos rfl] at H; exact H
    clear H
    have H := H1
    clear H1
    obtain rfl := Option.some.inj H
    simp only [Option.some.injEq, Prod.mk.injEq] at H
    obtain ⟨rfl⟩ := H
    go_enter Try.func15, Try.ntmps15
    go_wp2_with (first | ((with_reducible refine gate_callee (f := 20) rfl ?_); refine goesL_ (some 18) rfl rfl Try.func20 (by kernel_rfl) rfl #[.slice A0 l0.length c0] rfl (by (try simp only [List.map_toArray, List.map_cons, List.map_nil]); first | done | rfl | (simp only [List.length_drop, List.length_take]; rfl) | (go_simp; done) | (simp; done) | (simp; rfl)) ?_; (with_reducible refine (laws_big.calls _ _ l0 true _ ?side1 ?side2 A2.out).mono ?_); (case side1 => repeat (first | exact HR0.out | (with_reducible refine Kd.C_alloc ?_ _) | (with_reducible refine Kd.C_drewN ?_ _) | (with_reducible refine Kd.C_drew ?_))); (case side2 => exact HC0.out); rintro e w' ⟨rfl, ⟨nd, rfl⟩⟩; refine ⟨_, rfl, ?_⟩))
    go_ret
    exact ⟨by first | rfl | (simp [errW_none, errW_some] <;> rfl) | (simp [*, errW_none, errW_some] <;> rfl), by repeat (first | (with_reducible first | exact HB.out | apply below_alloc | apply pw_below_drewN | apply below_drew1) | exact HB.out)⟩
  · replace c3 := Bool.eq_false_iff.mpr c3
    subst c3
    have H1 : ((spec_DrawWordsText.f k l0).bind fun t225 => ((impl_WordsText.f k t225).bind fun bt228 => ((spec_WordsText.f k t225).bind fun bt230 => ((spec_DrawReadWords.f k l0).bind fun t232 => ((impl_ReadWords.f k t232).bind fun bt233 => ((spec_ReadWords.f k t232).bind fun bt237 => (if bt228.2 = bt230.2 then (if bt228.1.toList = bt230.1.toList then (if bt233.2 = bt237.2 then ((laws_likeTexts.f k bt233.1 bt237.1).bind fun t241 => (laws_FnWords.j0 k t225 bt228.1 bt228.2 t232 bt233.1 bt233.2 (!t241))) else (laws_FnWords.j0 k t225 bt228.1 bt228.2 t232 bt233.1 bt233.2 true)) else (laws_FnWords.j0 k t225 bt228.1 bt228.2 t232 bt233.1 bt233.2 true)) else (laws_FnWords.j0 k t225 bt228.1 bt228.2 t232 bt233.1 bt233.2 true)))))))) = some r := by rw [if_neg (show ¬ (false = true) by decide)] at H; exact H
    clear H
    have H := H1
    clear H1
    replace H := Option.bind_eq_some_iff.mp H
    obtain ⟨t225, A40, H⟩ := H
    replace H : ((impl_WordsText.f k t225).bind fun bt228 => ((spec_WordsText.f k t225).bind fun bt230 => ((spec_DrawReadWords.f k l0).bind fun t232 => ((impl_ReadWords.f k t232).bind fun bt233 => ((spec_ReadWords.f k t232).bind fun bt237 => (if bt228.2 = bt230.2 then (if bt228.1.toList = bt230.1.toList then (if bt233.2 = bt237.2 then ((laws_likeTexts.f k bt233.1 bt237.1).bind fun t241 => (laws_FnWords.j0 k t225 bt228.1 bt228.2 t232 bt233.1 bt233.2 (!t241))) else (laws_FnWords.j0 k t225 bt228.1 bt228.2 t232 bt233.1 bt233.2 true)) else (laws_FnWords.j0 k t225 bt228.1 bt228.2 t232 bt233.1 bt233.2 true)) else (laws_FnWords.j0 k t225 bt228.1 bt228.2 t232 bt233.1 bt233.2 true))))))) = some r := H
    have A4 := Aside0.mk A40
    clear A40
    replace H := Option.bind_eq_some_iff.mp H
    obtain ⟨⟨t228, t229⟩, A50, H⟩ := H
    replace H : ((spec_WordsText.f k t225).bind fun bt230 => ((spec_DrawReadWords.f k l0).bind fun t232 => ((impl_ReadWords.f k t232).bind fun bt233 => ((spec_ReadWords.f k t232).bind fun bt237 => (if t229 = bt230.2 then (if t228.toList = bt230.1.toList then (if bt233.2 = bt237.2 then ((laws_likeTexts.f k bt233.1 bt237.1).bind fun t241 => (laws_FnWords.j0 k t225 t228 t229 t232 bt233.1 bt233.2 (!t241))) else (laws_FnWords.j0 k t225 t228 t229 t232 bt233.1 bt233.2 true)) else (laws_FnWords.j0 k t225 t228 t229 t232 bt233.1 bt233.2 true)) else (laws_FnWords.j0 k t225 t228 t229 t232 bt233.1 bt233.2 true)))))) = some r := H
    have A5 := Aside0.mk A50
    clear A50
    replace H := Option.bind_eq_some_iff.mp H
    obtain ⟨⟨t230, t231⟩, A60, H⟩ := H
    replace H : ((spec_DrawReadWords.f k l0).bind fun t232 => ((impl_ReadWords.f k t232).bind fun bt233 => ((spec_ReadWords.f k t232).bind fun bt237 => (if t229 = t231 then (if t228.toList = t230.toList then (if bt233.2 = bt237.2 then ((laws_likeTexts.f k bt233.1 bt237.1).bind fun t241 => (laws_FnWords.j0 k t225 t228 t229 t232 bt233.1 bt233.2 (!t241))) else (laws_FnWords.j0 k t225 t228 t229 t232 bt233.1 bt233.2 true)) else (laws_FnWords.j0 k t225 t228 t229 t232 bt233.1 bt233.2 true)) else (laws_FnWords.j0 k t225 t228 t229 t232 bt233.1 bt233.2 true))))) = some r := H
    have A6 := Aside0.mk A60
    clear A60
    replace H := Option.bind_eq_some_iff.mp H
    obtain ⟨t232, A70, H⟩ := H
    replace H : ((impl_ReadWords.f k t232).bind fun bt233 => ((spec_ReadWords.f k t232).bind fun bt237 => (if t229 = t231 then (if t228.toList = t230.toList then (if bt233.2 = bt237.2 then ((laws_likeTexts.f k bt233.1 bt237.1).bind fun t241 => (laws_FnWords.j0 k t225 t228 t229 t232 bt233.1 bt233.2 (!t241))) else (laws_FnWords.j0 k t225 t228 t229 t232 bt233.1 bt233.2 true)) else (laws_FnWords.j0 k t225 t228 t229 t232 bt233.1 bt233.2 true)) else (laws_FnWords.j0 k t225 t228 t229 t232 bt233.1 bt233.2 true)))) = some r := H
    have A7 := Aside0.mk A70
    clear A70
    replace H := Option.bind_eq_some_iff.mp H
    obtain ⟨⟨t233, t234⟩, A80, H⟩ := H
    replace H : ((spec_ReadWords.f k t232).bind fun bt237 => (if t229 = t231 then (if t228.toList = t230.toList then (if t234 = bt237.2 then ((laws_likeTexts.f k t233 bt237.1).bind fun t241 => (laws_FnWords.j0 k t225 t228 t229 t232 t233 t234 (!t241))) else (laws_FnWords.j0 k t225 t228 t229 t232 t233 t234 true)) else (laws_FnWords.j0 k t225 t228 t229 t232 t233 t234 true)) else (laws_FnWords.j0 k t225 t228 t229 t232 t233 t234 true))) = some r := H
    have A8 := Aside0.mk A80
    clear A80
    replace H := Option.bind_eq_some_iff.mp H
    obtain ⟨⟨t237, t238⟩, A90, H⟩ := H
    replace H : (if t229 = t231 then (if t228.toList = t230.toList then (if t234 = t238 then ((laws_likeTexts.f k t233 t237).bind fun t241 => (laws_FnWords.j0 k t225 t228 t229 t232 t233 t234 (!t241))) else (laws_FnWords.j0 k t225 t228 t229 t232 t233 t234 true)) else (laws_FnWords.j0 k t225 t228 t229 t232 t233 t234 true)) else (laws_FnWords.j0 k t225 t228 t229 t232 t233 t234 true)) = some r := H
    have A9 := Aside0.mk A90
    clear A90
    have HC10 := Aside0.mk H
    clear H
    go_enter Try.func15, Try.ntmps15
    go_upto_region 9 with (first | ((with_reducible refine gate_callee (f := 20) rfl ?_); refine goesL_ (some 18) rfl rfl Try.func20 (by kernel_rfl) rfl #[.slice A0 l0.length c0] rfl (by (try simp only [List.map_toArray, List.map_cons, List.map_nil]); first | done | rfl | (simp only [List.length_drop, List.length_take]; rfl) | (go_simp; done) | (simp; done) | (simp; rfl)) ?_; (with_reducible refine (laws_big.calls _ _ l0 false _ ?side1 ?side2 A2.out).mono ?_); (case side1 => repeat (first | exact HR0.out | (with_reducible refine Kd.C_alloc ?_ _) | (with_reducible refine Kd.C_drewN ?_ _) | (with_reducible refine Kd.C_drew ?_))); (case side2 => exact HC0.out); rintro e w' ⟨rfl, ⟨nd, rfl⟩⟩; refine ⟨_, rfl, ?_⟩) | ((with_reducible refine gate_callee (f := 53) rfl ?_); refine goesL_ (some 20) rfl rfl Try.func53 (by kernel_rfl) rfl #[.slice A0 l0.length c0] rfl (by (try simp only [List.map_toArray, List.map_cons, List.map_nil]); first | done | rfl | (simp only [List.length_drop, List.length_take]; rfl) | (go_simp; done) | (simp; done) | (simp; rfl)) ?_; (with_reducible refine (spec_DrawWordsText.calls k _ _ l0 t225 _ ?side1 ?side2 A4.out).mono ?_); (case side1 => repeat (first | exact HR0.out | (with_reducible refine Kd.C_alloc ?_ _) | (with_reducible refine Kd.C_drewN ?_ _) | (with_reducible refine Kd.C_drew ?_))); (case side2 => exact HC0.out); rintro e w11 ⟨v226, rfl, ho0, hb⟩; refine ⟨_, rfl, ?_⟩; have n0_ := Aside0.mk (Kd.R_lower ho0 (below_size (by repeat (first | (with_reducible first | exact HB.out | apply below_alloc | apply pw_below_drewN | apply below_drew1) | exact HB.out)))); have n1_ := Aside0.mk (below_step (by repeat (first | (with_reducible first | exact HB.out | apply below_alloc | apply pw_below_drewN | apply below_drew1) | exact HB.out)) hb); clear HB; have HO227 := n0_; have HB := n1_; clear n0_ n1_; (try clear hb); (try clear hb2); (try clear hk); (try clear hi); (try clear ho0); obtain ⟨Ao12, co12, eo12⟩ := Kd.R_slice HO227.out; subst eo12) | ((with_reducible refine gate_callee (f := 45) rfl ?_); refine goesL_ (some 23) rfl rfl Try.func45 (by kernel_rfl) rfl #[.slice Ao12 t225.length co12] rfl (by (try simp only [List.map_toArray, List.map_cons, List.map_nil]); first | done | rfl | (simp only [List.length_drop, List.length_take]; rfl) | (go_simp; done) | (simp; done) | (simp; rfl)) ?_; (with_reducible refine (impl_WordsText.calls k _ _ t225 t228 t229 _ ?side1 ?side2 A5.out).mono ?_); (case side1 => repeat (first | exact (Kd.R_reads' HO227.out).2.2 | (with_reducible refine Kd.C_alloc ?_ _) | (with_reducible refine Kd.C_drewN ?_ _) | (with_reducible refine Kd.C_drew ?_))); (case side2 => exact (Kd.R_reads' HO227.out).2.1); rintro e w' ⟨rfl, ⟨nd, rfl⟩⟩; refine ⟨_, rfl, ?_⟩) | ((with_reducible refine gate_callee (f := 43) rfl ?_); refine goesL_ (some 28) rfl rfl Try.func43 (by kernel_rfl) rfl #[.slice Ao12 t225.length co12] rfl (by (try simp only [List.map_toArray, List.map_cons, List.map_nil]); first | done | rfl | (simp only [List.length_drop, List.length_take]; rfl) | (go_simp; done) | (simp; done) | (simp; rfl)) ?_; (with_reducible refine (spec_WordsText.calls k _ _ t225 t230 t231 _ ?side1 ?side2 A6.out).mono ?_); (case side1 => repeat (first | exact (Kd.R_reads' HO227.out).2.2 | (with_reducible refine Kd.C_alloc ?_ _) | (with_reducible refine Kd.C_drewN ?_ _) | (with_reducible refine Kd.C_drew ?_))); (case side2 => exact (Kd.R_reads' HO227.out).2.1); rintro e w' ⟨rfl, ⟨nd, rfl⟩⟩; refine ⟨_, rfl, ?_⟩) | ((with_reducible refine gate_callee (f := 54) rfl ?_); refine goesL_ (some 32) rfl rfl Try.func54 (by kernel_rfl) rfl #[.slice A0 l0.length c0] rfl (by (try simp only [List.map_toArray, List.map_cons, List.map_nil]); first | done | rfl | (simp only [List.length_drop, List.length_take]; rfl) | (go_simp; done) | (simp; done) | (simp; rfl)) ?_; (with_reducible refine (spec_DrawReadWords.calls k _ _ l0 t232 _ ?side1 ?side2 A7.out).mono ?_); (case side1 => repeat (first | exact (Kd.C_below HR0.out (by repeat (first | (with_reducible first | exact HB.out | apply below_alloc | apply pw_below_drewN | apply below_drew1) | exact HB.out))) | (with_reducible refine Kd.C_alloc ?_ _) | (with_reducible refine Kd.C_drewN ?_ _) | (with_reducible refine Kd.C_drew ?_))); (case side2 => exact HC0.out); rintro e w13 ⟨rfl, hb⟩; refine ⟨_, rfl, ?_⟩; have n0_ := Aside0.mk (Kd.R_below (by (with_reducible repeat (first | apply Kd.R_alloc | apply Kd.R_drewN | apply Kd.R_drew)); exact HO227.out) hb); have n1_ := Aside0.mk (below_step (by repeat (first | (with_reducible first | exact HB.out | apply below_alloc | apply pw_below_drewN | apply below_drew1) | exact HB.out)) hb); clear HO227; clear HB; have HO227 := n0_; have HB := n1_; clear n0_ n1_; (try clear hb); (try clear hb2); (try clear hk); (try clear hi)) | ((with_reducible refine gate_callee (f := 38) rfl ?_); refine goesL_ (some 35) rfl rfl Try.func38 (by kernel_rfl) rfl #[.string t232] rfl (by (try simp only [List.map_toArray, List.map_cons, List.map_nil]); first | done | rfl | (simp only [List.length_drop, List.length_take]; rfl) | (go_simp; done) | (simp; done) | (simp; rfl)) ?_; (with_reducible refine (impl_ReadWords.calls k t232 t233 t234 _ A8.out).mono ?_); rintro e w14 ⟨v235, rfl, ho0, hb⟩; refine ⟨_, rfl, ?_⟩; have n0_ := Aside0.mk (Kd.R_elder' (by (with_reducible repeat (first | apply Kd.R_alloc | apply Kd.R_drewN | apply Kd.R_drew)); exact HO227.out) (Kd.R_base ho0) hb); have n1_ := Aside0.mk (Kd.R_lower (Kd.R_new' ho0 (Kd.R_lt (by (with_reducible repeat (first | apply Kd.R_alloc | apply Kd.R_drewN | apply Kd.R_drew)); exact HO227.out))) (below_size (by repeat (first | (with_reducible first | exact HB.out | apply below_alloc | apply pw_below_drewN | apply below_drew1) | exact HB.out)))); have n2_ := Aside0.mk (below_step (by repeat (first | (with_reducible first | exact HB.out | apply below_alloc | apply pw_below_drewN | apply below_drew1) | exact HB.out)) hb); clear HO227; clear HB; have HO227 := n0_; have HO236 := n1_; have HB := n2_; clear n0_ n1_ n2_; (try clear hb); (try clear hb2); (try clear hk); (try clear hi); (try clear ho0)) | ((with_reducible refine gate_callee (f := 37) rfl ?_); refine goesL_ (some 40) rfl rfl Try.func37 (by kernel_rfl) rfl #[.string t232] rfl (by (try simp only [List.map_toArray, List.map_cons, List.map_nil]); first | done | rfl | (simp only [List.length_drop, List.length_take]; rfl) | (go_simp; done) | (simp; done) | (simp; rfl)) ?_; (with_reducible refine (spec_ReadWords.calls k t232 t237 t238 _ A9.out).mono ?_); rintro e w15 ⟨v239, rfl, ho0, hb⟩; refine ⟨_, rfl, ?_⟩; have n0_ := Aside0.mk (Kd.R_elder' (by (with_reducible repeat (first | apply Kd.R_alloc | apply Kd.R_drewN | apply Kd.R_drew)); exact HO227.out) (Kd.R_base ho0) hb); have n1_ := Aside0.mk (Kd.R_elder' (by (with_reducible repeat (first | apply Kd.R_alloc | apply Kd.R_drewN | apply Kd.R_drew)); exact HO236.out) (Kd.R_base ho0) hb); have n2_ := Aside0.mk (Kd.R_lower (Kd.R_new' (Kd.R_new' ho0 (Kd.R_lt (by (with_reducible repeat (first | apply Kd.R_alloc | apply Kd.R_drewN | apply Kd.R_drew)); exact HO227.out))) (Kd.R_lt (by (with_reducible repeat (first | apply Kd.R_alloc | apply Kd.R_drewN | apply Kd.R_drew)); exact HO236.out))) (below_size (by repeat (first | (with_reducible first | exact HB.out | apply below_alloc | apply pw_below_drewN | apply below_drew1) | exact HB.out)))); have n3_ := Aside0.mk (below_step (by repeat (first | (with_reducible first | exact HB.out | apply below_alloc | apply pw_below_drewN | apply below_drew1) | exact HB.out)) hb); clear HO227; clear HO236; clear HB; have HO227 := n0_; have HO236 := n1_; have HO240 := n2_; have HB := n3_; clear n0_ n1_ n2_ n3_; (try clear hb); (try clear hb2); (try clear hk); (try clear hi); (try clear ho0)))
    (try simp only [Act.put, List.setIfInBounds_toArray, List.set_cons_zero, List.set_cons_succ])
    go_cut [61] (fun v61 wc => ∃ (kq : Nat) (x61_9 : Bool), v61 = .bool x61_9 ∧ Aside0 (laws_FnWords.j0 kq t225 t228 t229 t232 t233 t234 x61_9 = some r) ∧ Aside0 (kq ≤ k) ∧ Aside0 (Kd.R Kd.string 9 wc w.heap.size (fun k_ => some k_ ≠ (v235 : Value).ownBlock) (.slice Ao12 t225.length co12) t225) ∧ Aside0 (Kd.R Kd.string 9 wc w.heap.size (fun k_ => some k_ ≠ ((.slice Ao12 t225.length co12) : Value).ownBlock) v235 t233) ∧ Aside0 (Below w.heap.size w wc))
    case first =>
      have H := HC10.out
      clear HC10
      by_cases c16 : t229 = t231
      · rw [if_pos c16] at H
        have c16b0 : (t229 == t231) = true := beq_iff_eq.mpr c16
        have c16b1 : (t229 != t231) = false := bne_eq_false_iff_eq.mpr c16
        clear c16
        (first | rw [c16b0] | (simp only [i64_w, i32_w]; rw [c16b0]) | skip)
        by_cases c17 : t228.toList = t230.toList
        · rw [if_pos c17] at H
          have c17b0 : (t228.toList == t230.toList) = true := beq_iff_eq.mpr c17
          have c17b1 : (t228.toList != t230.toList) = false := bne_eq_false_iff_eq.mpr c17
          clear c17
          by_cases c18 : t234 = t238
          · rw [if_pos c18] at H
            have c18b0 : (t234 == t238) = true := beq_iff_eq.mpr c18
            have c18b1 : (t234 != t238) = false := bne_eq_false_iff_eq.mpr c18
            clear c18
            replace H := Option.bind_eq_some_iff.mp H
            obtain ⟨t241, A190, H⟩ := H
            replace H : (laws_FnWords.j0 k t225 t228 t229 t232 t233 t234 (!t241)) = some r := H
            have A19 := Aside0.mk A190
            clear A190
            have H' := Aside0.mk H
            clear H
            obtain ⟨Ao20, co20, eo20⟩ := Kd.R_slice HO236.out
            subst eo20
            obtain ⟨Ao21, co21, eo21⟩ := Kd.R_slice HO240.out
            subst eo21
            go_wp2_with (first | (go_at_call 55; (with_reducible refine (laws_likeTexts.calls k _ _ t233 _ _ t237 t241 _ ?side1 ?side2 ?side3 ?side4 A19.out).mono ?_); (case side1 => repeat (first | exact (Kd.R_reads' HO236.out).2.2 | (with_reducible refine Kd.C_alloc ?_ _) | (with_reducible refine Kd.C_drewN ?_ _) | (with_reducible refine Kd.C_drew ?_))); (case side2 => exact (Kd.R_reads' HO236.out).2.1); (case side3 => repeat (first | exact (Kd.R_reads' HO240.out).2.2 | (with_reducible refine Kd.C_alloc ?_ _) | (with_reducible refine Kd.C_drewN ?_ _) | (with_reducible refine Kd.C_drew ?_))); (case side4 => exact (Kd.R_reads' HO240.out).2.1); rintro e w' ⟨rfl, ⟨nd, rfl⟩⟩))
            go_meet
            case rel => exact ⟨_, (!t241), (by first | rfl | (simp; done) | (simp [*]; done)), H', ⟨by first | omega | exact Nat.le_refl _⟩, ⟨by (with_reducible repeat (first | apply Kd.R_alloc | apply Kd.R_drewN | apply Kd.R_drew)); exact Kd.R_mono HO227.out (fun _ hk => hk.1.2)⟩, ⟨by (with_reducible repeat (first | apply Kd.R_alloc | apply Kd.R_drewN | apply Kd.R_drew)); exact Kd.R_mono HO236.out (fun _ hk => hk.1.2)⟩, ⟨by repeat (first | (with_reducible first | exact HB.out | apply below_alloc | apply pw_below_drewN | apply below_drew1) | exact HB.out)⟩⟩
          · rw [if_neg c18] at H
            have c18b0 : (t234 == t238) = false := beq_eq_false_iff_ne.mpr c18
            have c18b1 : (t234 != t238) = true := bne_iff_ne.mpr c18
            have H' := Aside0.mk H
            clear H
            go_wp2
            go_meet
            case rel => exact ⟨_, (true), (by first | rfl | (simp; done) | (simp [*]; done)), H', ⟨by first | omega | exact Nat.le_refl _⟩, ⟨by (with_reducible repeat (first | apply Kd.R_alloc | apply Kd.R_drewN | apply Kd.R_drew)); exact Kd.R_mono HO227.out (fun _ hk => hk.1.2)⟩, ⟨by (with_reducible repeat (first | apply Kd.R_alloc | apply Kd.R_drewN | apply Kd.R_drew)); exact Kd.R_mono HO236.out (fun _ hk => hk.1.2)⟩, ⟨by repeat (first | (with_reducible first | exact HB.out | apply below_alloc | apply pw_below_drewN | apply below_drew1) | exact HB.out)⟩⟩
        · rw [if_neg c17] at H
          have c17b0 : (t228.toList == t230.toList) = false := beq_eq_false_iff_ne.mpr c17
          have c17b1 : (t228.toList != t230.toList) = true := bne_iff_ne.mpr c17
          have H' := Aside0.mk H
          clear H
          go_wp2
          go_meet
          case rel => exact ⟨_, (true), (by first | rfl | (simp; done) | (simp [*]; done)), H', ⟨by first | omega | exact Nat.le_refl _⟩, ⟨by (with_reducible repeat (first | apply Kd.R_alloc | apply Kd.R_drewN | apply Kd.R_drew)); exact Kd.R_mono HO227.out (fun _ hk => hk.1.2)⟩, ⟨by (with_reducible repeat (first | apply Kd.R_alloc | apply Kd.R_drewN | apply Kd.R_drew)); exact Kd.R_mono HO236.out (fun _ hk => hk.1.2)⟩, ⟨by repeat (first | (with_reducible first | exact HB.out | apply below_alloc | apply pw_below_drewN | apply below_drew1) | exact HB.out)⟩⟩
      · rw [if_neg c16] at H
        have c16b0 : (t229 == t231) = false := beq_eq_false_iff_ne.mpr c16
        have c16b1 : (t229 != t231) = true := bne_iff_ne.mpr c16
        (first | rw [c16b0] | (simp only [i64_w, i32_w]; rw [c16b0]) | skip)
        have H' := Aside0.mk H
        clear H
        go_wp2
        go_meet
        case rel => exact ⟨_, (true), (by first | rfl | (simp; done) | (simp [*]; done)), H', ⟨by first | omega | exact Nat.le_refl _⟩, ⟨by (with_reducible repeat (first | apply Kd.R_alloc | apply Kd.R_drewN | apply Kd.R_drew)); exact Kd.R_mono HO227.out (fun _ hk => hk.1.2)⟩, ⟨by (with_reducible repeat (first | apply Kd.R_alloc | apply Kd.R_drewN | apply Kd.R_drew)); exact Kd.R_mono HO236.out (fun _ hk => hk.1.2)⟩, ⟨by repeat (first | (with_reducible first | exact HB.out | apply below_alloc | apply pw_below_drewN | apply below_drew1) | exact HB.out)⟩⟩
    case rest =>
      clear HC10
      try clear c1
      try clear c2
      try clear p2
      try clear c3
      try clear c4
      try clear c5
      try clear c15
      try clear c16
      try clear c16b0
      try clear c16b1
      try clear c17
      try clear c17b0
      try clear c17b1
      try clear c18
      try clear c18b0
      try clear c18b1
      try clear c20
      obtain ⟨kq, x61_9, rfl, HA, HJ9, HO_3, HO_9, HB⟩ := hcut
      cases kq with
      | zero => exact absurd HA.out (by simp [laws_FnWords.j0])
      | succ kj9 =>
        have H := HA.out
        clear HA
        simp only [laws_FnWords.j0] at H
        by_cases c22 : x61_9 = true
        · subst c22
          have H1 : (some false) = some r := by rw [if_pos rfl] at H; exact H
          clear H
          have H := H1
          clear H1
          obtain rfl := Option.some.inj H
          exact absurd hr_.out (by decide)
        · replace c22 := Bool.eq_false_iff.mpr c22
          subst c22
          have H1 : (if t234 = 0 then ((impl_WordsText.f kj9 t233).bind fun bt242 => (if bt242.2 = 0 then (if bt242.1.toList = t232.toList then (laws_FnWords.j1 kj9 t225 t228 t229) else (some false)) else (some false))) else (laws_FnWords.j1 kj9 t225 t228 t229)) = some r := by rw [if_neg (show ¬ (false = true) by decide)] at H; exact H
          clear H
          have H := H1
          clear H1
          have HC23 := Aside0.mk H
          clear H
          go_upto_if 63 with (fail)
          go_cut [] (fun wc => ∃ (kq : Nat), Aside0 (laws_FnWords.j1 kq t225 t228 t229 = some r) ∧ Aside0 (kq ≤ kj9) ∧ Aside0 (Kd.R Kd.string 9 wc w.heap.size (fun _ => True) (.slice Ao12 t225.length co12) t225) ∧ Aside0 (Below w.heap.size w wc))
          case first =>
            have H := HC23.out
            clear HC23
            by_cases c24 : t234 = 0
            · rw [if_pos c24] at H
              have c24b0 : (t234 == 0) = true := beq_iff_eq.mpr c24
              have c24b1 : (t234 != 0) = false := bne_eq_false_iff_eq.mpr c24
              clear c24
              (first | rw [c24b0] | (simp only [i64_w, i32_w]; rw [c24b0]) | skip)
              replace H := Option.bind_eq_some_iff.mp H
              obtain ⟨⟨t242, t243⟩, A250, H⟩ := H
              replace H : (if t243 = 0 then (if t242.toList = t232.toList then (laws_FnWords.j1 kj9 t225 t228 t229) else (some false)) else (some false)) = some r := H
              have A25 := Aside0.mk A250
              clear A250
              by_cases c26 : t243 = 0
              · rw [if_pos c26] at H
                have c26b0 : (t243 == 0) = true := beq_iff_eq.mpr c26
                have c26b1 : (t243 != 0) = false := bne_eq_false_iff_eq.mpr c26
                clear c26
                by_cases c27 : t242.toList = t232.toList
                · rw [if_pos c27] at H
                  have c27b0 : (t242.toList == t232.toList) = true := beq_iff_eq.mpr c27
                  have c27b1 : (t242.toList != t232.toList) = false := bne_eq_false_iff_eq.mpr c27
                  clear c27
                  have H' := Aside0.mk H
                  clear H
                  obtain ⟨Ao28, co28, eo28⟩ := Kd.R_slice HO_9.out
                  subst eo28
                  go_wp2_with (first | ((with_reducible refine gate_callee (f := 45) rfl ?_); refine goesL_ (some 66) rfl rfl Try.func45 (by kernel_rfl) rfl #[.slice Ao28 t233.length co28] rfl (by (try simp only [List.map_toArray, List.map_cons, List.map_nil]); first | done | rfl | (simp only [List.length_drop, List.length_take]; rfl) | (go_simp; done) | (simp; done) | (simp; rfl)) ?_; (with_reducible refine (impl_WordsText.calls kj9 _ _ t233 t242 t243 _ ?side1 ?side2 A25.out).mono ?_); (case side1 => repeat (first | exact (Kd.R_reads' HO_9.out).2.2 | (with_reducible refine Kd.C_alloc ?_ _) | (with_reducible refine Kd.C_drewN ?_ _) | (with_reducible refine Kd.C_drew ?_))); (case side2 => exact (Kd.R_reads' HO_9.out).2.1); rintro e w' ⟨rfl, ⟨nd, rfl⟩⟩; refine ⟨_, rfl, ?_⟩))
                  go_meet
                  case rel => exact ⟨_, H', ⟨by have := HJ9.out; first | omega | exact Nat.le_refl _⟩, ⟨by (with_reducible repeat (first | apply Kd.R_alloc | apply Kd.R_drewN | apply Kd.R_drew)); exact Kd.R_mono HO_3.out (fun _ hk => trivial)⟩, ⟨by repeat (first | (with_reducible first | exact HB.out | apply below_alloc | apply pw_below_drewN | apply below_drew1) | exact HB.out)⟩⟩
                · rw [if_neg c27] at H
                  have c27b0 : (t242.toList == t232.toList) = false := beq_eq_false_iff_ne.mpr c27
                  have c27b1 : (t242.toList != t232.toList) = true := bne_iff_ne.mpr c27
                  obtain rfl := Option.some.inj H
                  exact absurd hr_.out (by decide)
              · rw [if_neg c26] at H
                have c26b0 : (t243 == 0) = false := beq_eq_false_iff_ne.mpr c26
                have c26b1 : (t243 != 0) = true := bne_iff_ne.mpr c26
                obtain rfl := Option.some.inj H
                exact absurd hr_.out (by decide)
            · rw [if_neg c24] at H
              have c24b0 : (t234 == 0) = false := beq_eq_false_iff_ne.mpr c24
              have c24b1 : (t234 != 0) = true := bne_iff_ne.mpr c24
              (first | rw [c24b0] | (simp only [i64_w, i32_w]; rw [c24b0]) | skip)
              have H' := Aside0.mk H
              clear H
              go_wp2
              go_meet
              case rel => exact ⟨_, H', ⟨by have := HJ9.out; first | omega | exact Nat.le_refl _⟩, ⟨by (with_reducible repeat (first | apply Kd.R_alloc | apply Kd.R_drewN | apply Kd.R_drew)); exact Kd.R_mono HO_3.out (fun _ hk => trivial)⟩, ⟨by repeat (first | (with_reducible first | exact HB.out | apply below_alloc | apply pw_below_drewN | apply below_drew1) | exact HB.out)⟩⟩
          case rest =>
            clear HC23
            try clear c1
            try clear c2
            try clear p2
            try clear c3
            try clear c4
            try clear c5
            try clear c15
            try clear c16
            try clear c16b0
            try clear c16b1
            try clear c17
            try clear c17b0
            try clear c17b1
            try clear c18
            try clear c18b0
            try clear c18b1
            try clear c20
            try clear c22
            try clear c24
            try clear c24b0
            try clear c24b1
            try clear c26
            try clear c26b0
            try clear c26b1
            try clear c27
            try clear c27b0
            try clear c27b1
            try clear p2
            obtain ⟨kq, HA, HJ22, HO_3, HB⟩ := hcut
            cases kq with
            | zero => exact absurd HA.out (by simp [laws_FnWords.j1])
            | succ kj22 =>
              have H := HA.out
              clear HA
              simp only [laws_FnWords.j1] at H
              by_cases c29 : t229 = 0
              · rw [if_pos c29] at H
                have c29b0 : (t229 == 0) = true := beq_iff_eq.mpr c29
                have c29b1 : (t229 != 0) = false := bne_eq_false_iff_eq.mpr c29
                clear c29
                replace H := Option.bind_eq_some_iff.mp H
                obtain ⟨⟨t244, t245⟩, A300, H⟩ := H
                replace H : (if t245 = 0 then ((laws_likeTexts.f kj22 t244 t225).bind fun t248 => (some t248)) else (some false)) = some r := H
                have A30 := Aside0.mk A300
                clear A300
                by_cases c31 : t245 = 0
                · rw [if_pos c31] at H
                  have c31b0 : (t245 == 0) = true := beq_iff_eq.mpr c31
                  have c31b1 : (t245 != 0) = false := bne_eq_false_iff_eq.mpr c31
                  clear c31
                  replace H := Option.bind_eq_some_iff.mp H
                  obtain ⟨t248, A320, H⟩ := H
                  replace H : (some t248) = some r := H
                  have A32 := Aside0.mk A320
                  clear A320
                  obtain rfl := Option.some.inj H
                  simp only [Option.some.injEq, Prod.mk.injEq] at H
                  obtain ⟨rfl⟩ := H
                  go_wp2_with (first | ((with_reducible refine gate_callee (f := 38) rfl ?_); refine goesL_ (some 80) rfl rfl Try.func38 (by kernel_rfl) rfl #[.string t228] rfl (by (try simp only [List.map_toArray, List.map_cons, List.map_nil]); first | done | rfl | (simp only [List.length_drop, List.length_take]; rfl) | (go_simp; done) | (simp; done) | (simp; rfl)) ?_; (with_reducible refine (impl_ReadWords.calls kj22 t228 t244 t245 _ A30.out).mono ?_); rintro e w33 ⟨v246, rfl, ho0, hb⟩; refine ⟨_, rfl, ?_⟩; have n0_ := Aside0.mk (Kd.R_elder' (by (with_reducible repeat (first | apply Kd.R_alloc | apply Kd.R_drewN | apply Kd.R_drew)); exact HO_3.out) (Kd.R_base ho0) hb); have n1_ := Aside0.mk (Kd.R_lower (Kd.R_new' ho0 (Kd.R_lt (by (with_reducible repeat (first | apply Kd.R_alloc | apply Kd.R_drewN | apply Kd.R_drew)); exact HO_3.out))) (below_size (by repeat (first | (with_reducible first | exact HB.out | apply below_alloc | apply pw_below_drewN | apply below_drew1) | exact HB.out)))); have n2_ := Aside0.mk (below_step (by repeat (first | (with_reducible first | exact HB.out | apply below_alloc | apply pw_below_drewN | apply below_drew1) | exact HB.out)) hb); clear HO_3; clear HB; have HO_3 := n0_; have HO247 := n1_; have HB := n2_; clear n0_ n1_ n2_; (try clear hb); (try clear hb2); (try clear hk); (try clear hi); (try clear ho0); obtain ⟨Ao34, co34, eo34⟩ := Kd.R_slice HO247.out; subst eo34) | (go_at_call 55; (with_reducible refine (laws_likeTexts.calls kj22 _ _ t244 _ _ t225 t248 _ ?side1 ?side2 ?side3 ?side4 A32.out).mono ?_); (case side1 => repeat (first | exact (Kd.R_reads' HO247.out).2.2 | (with_reducible refine Kd.C_alloc ?_ _) | (with_reducible refine Kd.C_drewN ?_ _) | (with_reducible refine Kd.C_drew ?_))); (case side2 => exact (Kd.R_reads' HO247.out).2.1); (case side3 => repeat (first | exact (Kd.R_reads' HO_3.out).2.2 | (with_reducible refine Kd.C_alloc ?_ _) | (with_reducible refine Kd.C_drewN ?_ _) | (with_reducible refine Kd.C_drew ?_))); (case side4 => exact (Kd.R_reads' HO_3.out).2.1); rintro e w' ⟨rfl, ⟨nd, rfl⟩⟩))
                  go_ret
                  exact ⟨by first | rfl | (simp [errW_none, errW_some] <;> rfl) | (simp [*, errW_none, errW_some] <;> rfl), by repeat (first | (with_reducible first | exact HB.out | apply below_alloc | apply pw_below_drewN | apply below_drew1) | exact HB.out)⟩
                · rw [if_neg c31] at H
                  have c31b0 : (t245 == 0) = false := beq_eq_false_iff_ne.mpr c31
                  have c31b1 : (t245 != 0) = true := bne_iff_ne.mpr c31
                  obtain rfl := Option.some.inj H
                  exact absurd hr_.out (by decide)
              · rw [if_neg c29] at H
                have c29b0 : (t229 == 0) = false := beq_eq_false_iff_ne.mpr c29
                have c29b1 : (t229 != 0) = true := bne_iff_ne.mpr c29
                obtain rfl := Option.some.inj H
                simp only [Option.some.injEq, Prod.mk.injEq] at H
                obtain ⟨rfl⟩ := H
                go_wp2
                go_ret
                exact ⟨by first | rfl | (simp [errW_none, errW_some] <;> rfl) | (simp [*, errW_none, errW_some] <;> rfl), by repeat (first | (with_reducible first | exact HB.out | apply below_alloc | apply pw_below_drewN | apply below_drew1) | exact HB.out)⟩

/-- THE ONE PURE STATEMENT of laws_FnWords: yours. -/
def laws_FnWords.Pure : Prop := ∀ (l0 : List Int), l0.length ≤ maxLen → l0.length * 1 ≤ 140737488351232 → (∀ x ∈ l0, (Lit.int .u8 x).wf = true) → ∃ k, laws_FnWords.f k l0 = some true
theorem laws_FnWords.walk (P : laws_FnWords.Pure) (a0 : Option Addr) (len0 cap0 : Nat) (z0 : List Int) (w : World) (w0 : (a0 = none ∧ len0 = 0 ∧ cap0 = 0 ∧ z0 = []) ∨ ∃ x, a0 = some x ∧ len0 ≤ cap0 ∧ cap0 ≤ maxLen ∧ z0.length = cap0 ∧ (∀ i, i < z0.length → w.cell? (x.add i) = some (.int .u8 (z0.getD i 0))) ∧ ∀ n ∈ z0, (Lit.int .u8 n).wf = true) (y0 : len0 * 1 ≤ 140737488351232) :
    Calls Try.prog 15 #[.slice a0 len0 cap0] w fun e w' => e = .returned (.bool true) ∧ Below w.heap.size w w' := by
  obtain ⟨l0, rfl, hr0, hm0, hw0, hc0⟩ := ReadsInt.ofRowC w0
  obtain ⟨k, h⟩ := P l0 hm0 y0 hw0
  refine (laws_FnWords.calls k _ _ l0 true w (Kd.C_of_reads (d := (0 : Int)) (h1 := fun _ => rfl) hr0) hc0 h ⟨rfl⟩).mono ?_
  rintro e w' ⟨rfl, hd⟩
  exact ⟨rfl, hd⟩

end Go.Proofs.Ytgcjjpaljfgiaaa.QFnWords
