-- Written by a program of this project's session, after the kit's print (a turned copy of its programs). Lean checks it.
import Derived.Test.YtmepklccbogibaaQFnArticleTextsx0
import Derived.Test.YtmepklccbogibaaQFnArticleTextsx1
import Derived.Test.YtmepklccbogibaaQFnArticleTextsx2
import Derived.Test.YtmepklccbogibaaQFnArticleTextsx3
import Derived.Test.YtmepklccbogibaaQFnArticleTextsx4
import Derived.Test.YtmepklccbogibaaQFnArticleTextsx5
import Derived.Test.YtmepklccbogibaaQFnArticleTextsx6
import Derived.Test.YtmepklccbogibaaQFnArticleTextsx7
import Derived.Test.YtmepklccbogibaaQFnArticleTextsx8
namespace Go.Proofs.Ytmepklccbogibaa.QFnArticleTexts
open Go.RowKit Go.Proofs.YtmepklccbogibaaW.PrintWords Go.Proofs.YtmepklccbogibaaW.PrintLast Go.Proofs.YtmepklccbogibaaW.PrintMore
attribute [local go_sem] max2_int min2_int max_two min_two max_three min_three max_four min_four   -- for this text's walks alone
set_option linter.unusedVariables false
set_option linter.unusedSimpArgs false

attribute [local go_sem high] eqA26
/-! ### laws_FnArticleTexts: function 4 -/
mutual
def laws_FnArticleTexts.j0 : Nat → ByteArray → Int → ByteArray → Int → Bool → ByteArray → Int → Int → Int → Int → Int → Int → Int → Int → ByteArray → Int → Int → Int → Int → Int → Int → Int → Int → Option (Bool)
 | 0, _, _, _, _, _, _, _, _, _, _, _, _, _, _, _, _, _, _, _, _, _, _, _ => none
 | k + 1, x4, x5, x8, x10, x68, x358000, x358001, x358002, x358003, x358004, x358005, x358006, x358007, x358008, x374000, x374001, x374002, x374003, x374004, x374005, x374006, x374007, x374008 => if x68 = true then (some false) else (if x10 = 0 then ((impl_ArticleText.f k x374000 x374001 x374002 x374003 x374004 x374005 x374006 x374007 x374008).bind fun bt386 => (if bt386.2 = 0 then (laws_FnArticleTexts.j1 k x4 x5 (bt386.1.toList != x8.toList) x358000 x358001 x358002 x358003 x358004 x358005 x358006 x358007 x358008) else (laws_FnArticleTexts.j1 k x4 x5 true x358000 x358001 x358002 x358003 x358004 x358005 x358006 x358007 x358008))) else (if x5 = 0 then ((impl_ReadArticle.f k x4).bind fun bt399 => (if bt399.2.2.2.2.2.2.2.2.2 = 0 then (some (bt399.1.toList == x358000.toList && (bt399.2.1 == x358001 && (bt399.2.2.1 == x358002 && (bt399.2.2.2.1 == x358003 && (bt399.2.2.2.2.1 == x358004 && (bt399.2.2.2.2.2.1 == x358005 && (bt399.2.2.2.2.2.2.1 == x358006 && (bt399.2.2.2.2.2.2.2.1 == x358007 && (bt399.2.2.2.2.2.2.2.2.1 == x358008)))))))))) else (some false))) else (some true)))
def laws_FnArticleTexts.j1 : Nat → ByteArray → Int → Bool → ByteArray → Int → Int → Int → Int → Int → Int → Int → Int → Option (Bool)
 | 0, _, _, _, _, _, _, _, _, _, _, _, _ => none
 | k + 1, x4, x5, x82, x358000, x358001, x358002, x358003, x358004, x358005, x358006, x358007, x358008 => if x82 = true then (some false) else (if x5 = 0 then ((impl_ReadArticle.f k x4).bind fun bt388 => (if bt388.2.2.2.2.2.2.2.2.2 = 0 then (some (bt388.1.toList == x358000.toList && (bt388.2.1 == x358001 && (bt388.2.2.1 == x358002 && (bt388.2.2.2.1 == x358003 && (bt388.2.2.2.2.1 == x358004 && (bt388.2.2.2.2.2.1 == x358005 && (bt388.2.2.2.2.2.2.1 == x358006 && (bt388.2.2.2.2.2.2.2.1 == x358007 && (bt388.2.2.2.2.2.2.2.2.1 == x358008)))))))))) else (some false))) else (some true))
end
theorem j0T : ∀ (k : Nat) (v0 : ByteArray) (v1 : Int) (v2 : ByteArray) (v3 : Int) (v5 : ByteArray) (v6 : Int) (v7 : Int) (v8 : Int) (v9 : Int) (v10 : Int) (v11 : Int) (v12 : Int) (v13 : Int) (v14 : ByteArray) (v15 : Int) (v16 : Int) (v17 : Int) (v18 : Int) (v19 : Int) (v20 : Int) (v21 : Int) (v22 : Int), laws_FnArticleTexts.j0 k v0 v1 v2 v3 true v5 v6 v7 v8 v9 v10 v11 v12 v13 v14 v15 v16 v17 v18 v19 v20 v21 v22 ≠ some true := by
  intro k v0 v1 v2 v3 v5 v6 v7 v8 v9 v10 v11 v12 v13 v14 v15 v16 v17 v18 v19 v20 v21 v22
  cases k <;> simp [laws_FnArticleTexts.j0]
theorem j1T : ∀ (k : Nat) (v0 : ByteArray) (v1 : Int) (v3 : ByteArray) (v4 : Int) (v5 : Int) (v6 : Int) (v7 : Int) (v8 : Int) (v9 : Int) (v10 : Int) (v11 : Int), laws_FnArticleTexts.j1 k v0 v1 true v3 v4 v5 v6 v7 v8 v9 v10 v11 ≠ some true := by
  intro k v0 v1 v3 v4 v5 v6 v7 v8 v9 v10 v11
  cases k <;> simp [laws_FnArticleTexts.j1]
def laws_FnArticleTexts.f (k : Nat) (l0 : List Int) : Option (Bool) := (laws_big.f l0).bind fun t347 => (if t347 = true then (some true) else ((spec_DrawArticleText.f k l0).bind fun bt348 => ((impl_ArticleText.f k bt348.1 bt348.2.1 bt348.2.2.1 bt348.2.2.2.1 bt348.2.2.2.2.1 bt348.2.2.2.2.2.1 bt348.2.2.2.2.2.2.1 bt348.2.2.2.2.2.2.2.1 bt348.2.2.2.2.2.2.2.2).bind fun bt358 => ((spec_ArticleText.f k bt348.1 bt348.2.1 bt348.2.2.1 bt348.2.2.2.1 bt348.2.2.2.2.1 bt348.2.2.2.2.2.1 bt348.2.2.2.2.2.2.1 bt348.2.2.2.2.2.2.2.1 bt348.2.2.2.2.2.2.2.2).bind fun bt360 => ((spec_DrawReadArticle.f k l0).bind fun t362 => ((impl_ReadArticle.f k t362).bind fun bt363 => ((spec_ReadArticle.f k t362).bind fun bt374 => (if bt358.2 = bt360.2 then (if bt358.1.toList = bt360.1.toList then (if bt363.2.2.2.2.2.2.2.2.2 = bt374.2.2.2.2.2.2.2.2.2 then (if ((bt363.1.toList == bt374.1.toList && (bt363.2.1 == bt374.2.1 && (bt363.2.2.1 == bt374.2.2.1 && (bt363.2.2.2.1 == bt374.2.2.2.1 && (bt363.2.2.2.2.1 == bt374.2.2.2.2.1 && (bt363.2.2.2.2.2.1 == bt374.2.2.2.2.2.1 && (bt363.2.2.2.2.2.2.1 == bt374.2.2.2.2.2.2.1 && (bt363.2.2.2.2.2.2.2.1 == bt374.2.2.2.2.2.2.2.1 && (bt363.2.2.2.2.2.2.2.2.1 == bt374.2.2.2.2.2.2.2.2.1))))))))) = true) then ((impl_IsArticle.f k bt348.1 bt348.2.1 bt348.2.2.1 bt348.2.2.2.1 bt348.2.2.2.2.1 bt348.2.2.2.2.2.1 bt348.2.2.2.2.2.2.1 bt348.2.2.2.2.2.2.2.1 bt348.2.2.2.2.2.2.2.2).bind fun t385 => (laws_FnArticleTexts.j0 k bt358.1 bt358.2 t362 bt363.2.2.2.2.2.2.2.2.2 (t385 != (bt360.2 == 0)) bt348.1 bt348.2.1 bt348.2.2.1 bt348.2.2.2.1 bt348.2.2.2.2.1 bt348.2.2.2.2.2.1 bt348.2.2.2.2.2.2.1 bt348.2.2.2.2.2.2.2.1 bt348.2.2.2.2.2.2.2.2 bt363.1 bt363.2.1 bt363.2.2.1 bt363.2.2.2.1 bt363.2.2.2.2.1 bt363.2.2.2.2.2.1 bt363.2.2.2.2.2.2.1 bt363.2.2.2.2.2.2.2.1 bt363.2.2.2.2.2.2.2.2.1)) else (laws_FnArticleTexts.j0 k bt358.1 bt358.2 t362 bt363.2.2.2.2.2.2.2.2.2 true bt348.1 bt348.2.1 bt348.2.2.1 bt348.2.2.2.1 bt348.2.2.2.2.1 bt348.2.2.2.2.2.1 bt348.2.2.2.2.2.2.1 bt348.2.2.2.2.2.2.2.1 bt348.2.2.2.2.2.2.2.2 bt363.1 bt363.2.1 bt363.2.2.1 bt363.2.2.2.1 bt363.2.2.2.2.1 bt363.2.2.2.2.2.1 bt363.2.2.2.2.2.2.1 bt363.2.2.2.2.2.2.2.1 bt363.2.2.2.2.2.2.2.2.1)) else (laws_FnArticleTexts.j0 k bt358.1 bt358.2 t362 bt363.2.2.2.2.2.2.2.2.2 true bt348.1 bt348.2.1 bt348.2.2.1 bt348.2.2.2.1 bt348.2.2.2.2.1 bt348.2.2.2.2.2.1 bt348.2.2.2.2.2.2.1 bt348.2.2.2.2.2.2.2.1 bt348.2.2.2.2.2.2.2.2 bt363.1 bt363.2.1 bt363.2.2.1 bt363.2.2.2.1 bt363.2.2.2.2.1 bt363.2.2.2.2.2.1 bt363.2.2.2.2.2.2.1 bt363.2.2.2.2.2.2.2.1 bt363.2.2.2.2.2.2.2.2.1)) else (laws_FnArticleTexts.j0 k bt358.1 bt358.2 t362 bt363.2.2.2.2.2.2.2.2.2 true bt348.1 bt348.2.1 bt348.2.2.1 bt348.2.2.2.1 bt348.2.2.2.2.1 bt348.2.2.2.2.2.1 bt348.2.2.2.2.2.2.1 bt348.2.2.2.2.2.2.2.1 bt348.2.2.2.2.2.2.2.2 bt363.1 bt363.2.1 bt363.2.2.1 bt363.2.2.2.1 bt363.2.2.2.2.1 bt363.2.2.2.2.2.1 bt363.2.2.2.2.2.2.1 bt363.2.2.2.2.2.2.2.1 bt363.2.2.2.2.2.2.2.2.1)) else (laws_FnArticleTexts.j0 k bt358.1 bt358.2 t362 bt363.2.2.2.2.2.2.2.2.2 true bt348.1 bt348.2.1 bt348.2.2.1 bt348.2.2.2.1 bt348.2.2.2.2.1 bt348.2.2.2.2.2.1 bt348.2.2.2.2.2.2.1 bt348.2.2.2.2.2.2.2.1 bt348.2.2.2.2.2.2.2.2 bt363.1 bt363.2.1 bt363.2.2.1 bt363.2.2.2.1 bt363.2.2.2.2.1 bt363.2.2.2.2.2.1 bt363.2.2.2.2.2.2.1 bt363.2.2.2.2.2.2.2.1 bt363.2.2.2.2.2.2.2.2.1)))))))))
theorem laws_FnArticleTexts.mono_l : ∀ k, (∀ y0 y1 y2 y3 y4 y5 y6 y7 y8 y9 y10 y11 y12 y13 y14 y15 y16 y17 y18 y19 y20 y21 y22, LeO (laws_FnArticleTexts.j0 k y0 y1 y2 y3 y4 y5 y6 y7 y8 y9 y10 y11 y12 y13 y14 y15 y16 y17 y18 y19 y20 y21 y22) (laws_FnArticleTexts.j0 (k + 1) y0 y1 y2 y3 y4 y5 y6 y7 y8 y9 y10 y11 y12 y13 y14 y15 y16 y17 y18 y19 y20 y21 y22)) ∧ (∀ y0 y1 y2 y3 y4 y5 y6 y7 y8 y9 y10 y11, LeO (laws_FnArticleTexts.j1 k y0 y1 y2 y3 y4 y5 y6 y7 y8 y9 y10 y11) (laws_FnArticleTexts.j1 (k + 1) y0 y1 y2 y3 y4 y5 y6 y7 y8 y9 y10 y11))
 | 0 => ⟨fun _ _ _ _ _ _ _ _ _ _ _ _ _ _ _ _ _ _ _ _ _ _ _ r h => by simp [laws_FnArticleTexts.j0] at h, fun _ _ _ _ _ _ _ _ _ _ _ _ r h => by simp [laws_FnArticleTexts.j1] at h⟩
 | k + 1 => by
  obtain ⟨ih0, ih1⟩ := laws_FnArticleTexts.mono_l k
  refine ⟨?_, ?_⟩
  ·
   intro y0 y1 y2 y3 y4 y5 y6 y7 y8 y9 y10 y11 y12 y13 y14 y15 y16 y17 y18 y19 y20 y21 y22
   unfold laws_FnArticleTexts.j0
   repeat' first
   | (with_reducible exact ih0 _ _ _ _ _ _ _ _ _ _ _ _ _ _ _ _ _ _ _ _ _ _ _)
   | (with_reducible exact ih1 _ _ _ _ _ _ _ _ _ _ _ _)
   | (with_reducible exact impl_ArticleText.mono _ _ _ _ _ _ _ _ _ _)
   | (with_reducible exact impl_IsArticle.mono _ _ _ _ _ _ _ _ _ _)
   | (with_reducible exact impl_ReadArticle.mono _ _)
   | (with_reducible exact spec_ArticleText.mono _ _ _ _ _ _ _ _ _ _)
   | (with_reducible exact spec_DrawArticleText.mono _ _)
   | (with_reducible exact spec_DrawReadArticle.mono _ _)
   | (with_reducible exact spec_ReadArticle.mono _ _)
   | (with_reducible exact LeO.refl _)
   | (with_reducible exact LeO.none _)
   | (with_reducible refine LeO.ite ?_ ?_)
   | (with_reducible refine LeO.bind ?_ (fun _ => ?_))
   | exact ih0 _ _ _ _ _ _ _ _ _ _ _ _ _ _ _ _ _ _ _ _ _ _ _
   | exact ih1 _ _ _ _ _ _ _ _ _ _ _ _
   | exact impl_ArticleText.mono _ _ _ _ _ _ _ _ _ _
   | exact impl_IsArticle.mono _ _ _ _ _ _ _ _ _ _
   | exact impl_ReadArticle.mono _ _
   | exact spec_ArticleText.mono _ _ _ _ _ _ _ _ _ _
   | exact spec_DrawArticleText.mono _ _
   | exact spec_DrawReadArticle.mono _ _
   | exact spec_ReadArticle.mono _ _
   | exact LeO.none _
   | refine LeO.ite ?_ ?_
   | refine LeO.bind ?_ (fun _ => ?_)
  ·
   intro y0 y1 y2 y3 y4 y5 y6 y7 y8 y9 y10 y11
   unfold laws_FnArticleTexts.j1
   repeat' first
   | (with_reducible exact ih0 _ _ _ _ _ _ _ _ _ _ _ _ _ _ _ _ _ _ _ _ _ _ _)
   | (with_reducible exact ih1 _ _ _ _ _ _ _ _ _ _ _ _)
   | (with_reducible exact impl_ArticleText.mono _ _ _ _ _ _ _ _ _ _)
   | (with_reducible exact impl_IsArticle.mono _ _ _ _ _ _ _ _ _ _)
   | (with_reducible exact impl_ReadArticle.mono _ _)
   | (with_reducible exact spec_ArticleText.mono _ _ _ _ _ _ _ _ _ _)
   | (with_reducible exact spec_DrawArticleText.mono _ _)
   | (with_reducible exact spec_DrawReadArticle.mono _ _)
   | (with_reducible exact spec_ReadArticle.mono _ _)
   | (with_reducible exact LeO.refl _)
   | (with_reducible exact LeO.none _)
   | (with_reducible refine LeO.ite ?_ ?_)
   | (with_reducible refine LeO.bind ?_ (fun _ => ?_))
   | exact ih0 _ _ _ _ _ _ _ _ _ _ _ _ _ _ _ _ _ _ _ _ _ _ _
   | exact ih1 _ _ _ _ _ _ _ _ _ _ _ _
   | exact impl_ArticleText.mono _ _ _ _ _ _ _ _ _ _
   | exact impl_IsArticle.mono _ _ _ _ _ _ _ _ _ _
   | exact impl_ReadArticle.mono _ _
   | exact spec_ArticleText.mono _ _ _ _ _ _ _ _ _ _
   | exact spec_DrawArticleText.mono _ _
   | exact spec_DrawReadArticle.mono _ _
   | exact spec_ReadArticle.mono _ _
   | exact LeO.none _
   | refine LeO.ite ?_ ?_
   | refine LeO.bind ?_ (fun _ => ?_)
theorem laws_FnArticleTexts.mono : ∀ a0 k, LeO (laws_FnArticleTexts.f k a0) (laws_FnArticleTexts.f (k + 1) a0) := by
 intro a0 k
 obtain ⟨ih0, ih1⟩ := laws_FnArticleTexts.mono_l k
 unfold laws_FnArticleTexts.f
 repeat' first
   | (with_reducible exact ih0 _ _ _ _ _ _ _ _ _ _ _ _ _ _ _ _ _ _ _ _ _ _ _)
   | (with_reducible exact ih1 _ _ _ _ _ _ _ _ _ _ _ _)
   | (with_reducible exact impl_ArticleText.mono _ _ _ _ _ _ _ _ _ _)
   | (with_reducible exact impl_IsArticle.mono _ _ _ _ _ _ _ _ _ _)
   | (with_reducible exact impl_ReadArticle.mono _ _)
   | (with_reducible exact spec_ArticleText.mono _ _ _ _ _ _ _ _ _ _)
   | (with_reducible exact spec_DrawArticleText.mono _ _)
   | (with_reducible exact spec_DrawReadArticle.mono _ _)
   | (with_reducible exact spec_ReadArticle.mono _ _)
   | (with_reducible exact LeO.refl _)
   | (with_reducible exact LeO.none _)
   | (with_reducible refine LeO.ite ?_ ?_)
   | (with_reducible refine LeO.bind ?_ (fun _ => ?_))
   | exact ih0 _ _ _ _ _ _ _ _ _ _ _ _ _ _ _ _ _ _ _ _ _ _ _
   | exact ih1 _ _ _ _ _ _ _ _ _ _ _ _
   | exact impl_ArticleText.mono _ _ _ _ _ _ _ _ _ _
   | exact impl_IsArticle.mono _ _ _ _ _ _ _ _ _ _
   | exact impl_ReadArticle.mono _ _
   | exact spec_ArticleText.mono _ _ _ _ _ _ _ _ _ _
   | exact spec_DrawArticleText.mono _ _
   | exact spec_DrawReadArticle.mono _ _
   | exact spec_ReadArticle.mono _ _
   | exact LeO.none _
   | refine LeO.ite ?_ ?_
   | refine LeO.bind ?_ (fun _ => ?_)
set_option maxHeartbeats 40000000 in
set_option maxRecDepth 100000 in
theorem laws_FnArticleTexts.calls (k : Nat) (A0 : Option Addr) (c0 : Nat) (l0 : List Int) (r : Bool) (w : World) (hr0 : Kd.C (Kd.int .u8) w A0 l0.length l0) (hc0 : l0.length ≤ c0) (h : laws_FnArticleTexts.f k l0 = some r) (hr_ : Aside0 (r = true)) :
  Calls Try.prog 4 #[.slice A0 l0.length c0] w fun e w' => e = .returned (.bool r) ∧ Below w.heap.size w w' := by
 have hu26 := Try.underlying26
 have HR0 := Aside0.mk hr0
 have HC0 := Aside0.mk hc0
 clear hr0 hc0
 have HB := Aside0.mk (Below.refl w.heap.size w)
 have H : ((laws_big.f l0).bind fun t347 => (if t347 = true then (some true) else ((spec_DrawArticleText.f k l0).bind fun bt348 => ((impl_ArticleText.f k bt348.1 bt348.2.1 bt348.2.2.1 bt348.2.2.2.1 bt348.2.2.2.2.1 bt348.2.2.2.2.2.1 bt348.2.2.2.2.2.2.1 bt348.2.2.2.2.2.2.2.1 bt348.2.2.2.2.2.2.2.2).bind fun bt358 => ((spec_ArticleText.f k bt348.1 bt348.2.1 bt348.2.2.1 bt348.2.2.2.1 bt348.2.2.2.2.1 bt348.2.2.2.2.2.1 bt348.2.2.2.2.2.2.1 bt348.2.2.2.2.2.2.2.1 bt348.2.2.2.2.2.2.2.2).bind fun bt360 => ((spec_DrawReadArticle.f k l0).bind fun t362 => ((impl_ReadArticle.f k t362).bind fun bt363 => ((spec_ReadArticle.f k t362).bind fun bt374 => (if bt358.2 = bt360.2 then (if bt358.1.toList = bt360.1.toList then (if bt363.2.2.2.2.2.2.2.2.2 = bt374.2.2.2.2.2.2.2.2.2 then (if ((bt363.1.toList == bt374.1.toList && (bt363.2.1 == bt374.2.1 && (bt363.2.2.1 == bt374.2.2.1 && (bt363.2.2.2.1 == bt374.2.2.2.1 && (bt363.2.2.2.2.1 == bt374.2.2.2.2.1 && (bt363.2.2.2.2.2.1 == bt374.2.2.2.2.2.1 && (bt363.2.2.2.2.2.2.1 == bt374.2.2.2.2.2.2.1 && (bt363.2.2.2.2.2.2.2.1 == bt374.2.2.2.2.2.2.2.1 && (bt363.2.2.2.2.2.2.2.2.1 == bt374.2.2.2.2.2.2.2.2.1))))))))) = true) then ((impl_IsArticle.f k bt348.1 bt348.2.1 bt348.2.2.1 bt348.2.2.2.1 bt348.2.2.2.2.1 bt348.2.2.2.2.2.1 bt348.2.2.2.2.2.2.1 bt348.2.2.2.2.2.2.2.1 bt348.2.2.2.2.2.2.2.2).bind fun t385 => (laws_FnArticleTexts.j0 k bt358.1 bt358.2 t362 bt363.2.2.2.2.2.2.2.2.2 (t385 != (bt360.2 == 0)) bt348.1 bt348.2.1 bt348.2.2.1 bt348.2.2.2.1 bt348.2.2.2.2.1 bt348.2.2.2.2.2.1 bt348.2.2.2.2.2.2.1 bt348.2.2.2.2.2.2.2.1 bt348.2.2.2.2.2.2.2.2 bt363.1 bt363.2.1 bt363.2.2.1 bt363.2.2.2.1 bt363.2.2.2.2.1 bt363.2.2.2.2.2.1 bt363.2.2.2.2.2.2.1 bt363.2.2.2.2.2.2.2.1 bt363.2.2.2.2.2.2.2.2.1)) else (laws_FnArticleTexts.j0 k bt358.1 bt358.2 t362 bt363.2.2.2.2.2.2.2.2.2 true bt348.1 bt348.2.1 bt348.2.2.1 bt348.2.2.2.1 bt348.2.2.2.2.1 bt348.2.2.2.2.2.1 bt348.2.2.2.2.2.2.1 bt348.2.2.2.2.2.2.2.1 bt348.2.2.2.2.2.2.2.2 bt363.1 bt363.2.1 bt363.2.2.1 bt363.2.2.2.1 bt363.2.2.2.2.1 bt363.2.2.2.2.2.1 bt363.2.2.2.2.2.2.1 bt363.2.2.2.2.2.2.2.1 bt363.2.2.2.2.2.2.2.2.1)) else (laws_FnArticleTexts.j0 k bt358.1 bt358.2 t362 bt363.2.2.2.2.2.2.2.2.2 true bt348.1 bt348.2.1 bt348.2.2.1 bt348.2.2.2.1 bt348.2.2.2.2.1 bt348.2.2.2.2.2.1 bt348.2.2.2.2.2.2.1 bt348.2.2.2.2.2.2.2.1 bt348.2.2.2.2.2.2.2.2 bt363.1 bt363.2.1 bt363.2.2.1 bt363.2.2.2.1 bt363.2.2.2.2.1 bt363.2.2.2.2.2.1 bt363.2.2.2.2.2.2.1 bt363.2.2.2.2.2.2.2.1 bt363.2.2.2.2.2.2.2.2.1)) else (laws_FnArticleTexts.j0 k bt358.1 bt358.2 t362 bt363.2.2.2.2.2.2.2.2.2 true bt348.1 bt348.2.1 bt348.2.2.1 bt348.2.2.2.1 bt348.2.2.2.2.1 bt348.2.2.2.2.2.1 bt348.2.2.2.2.2.2.1 bt348.2.2.2.2.2.2.2.1 bt348.2.2.2.2.2.2.2.2 bt363.1 bt363.2.1 bt363.2.2.1 bt363.2.2.2.1 bt363.2.2.2.2.1 bt363.2.2.2.2.2.1 bt363.2.2.2.2.2.2.1 bt363.2.2.2.2.2.2.2.1 bt363.2.2.2.2.2.2.2.2.1)) else (laws_FnArticleTexts.j0 k bt358.1 bt358.2 t362 bt363.2.2.2.2.2.2.2.2.2 true bt348.1 bt348.2.1 bt348.2.2.1 bt348.2.2.2.1 bt348.2.2.2.2.1 bt348.2.2.2.2.2.1 bt348.2.2.2.2.2.2.1 bt348.2.2.2.2.2.2.2.1 bt348.2.2.2.2.2.2.2.2 bt363.1 bt363.2.1 bt363.2.2.1 bt363.2.2.2.1 bt363.2.2.2.2.1 bt363.2.2.2.2.2.1 bt363.2.2.2.2.2.2.1 bt363.2.2.2.2.2.2.2.1 bt363.2.2.2.2.2.2.2.2.1)))))))))) = some r := h
 clear h
 replace H := Option.bind_eq_some_iff.mp H
 obtain ⟨t347, A20, H⟩ := H
 replace H : (if t347 = true then (some true) else ((spec_DrawArticleText.f k l0).bind fun bt348 => ((impl_ArticleText.f k bt348.1 bt348.2.1 bt348.2.2.1 bt348.2.2.2.1 bt348.2.2.2.2.1 bt348.2.2.2.2.2.1 bt348.2.2.2.2.2.2.1 bt348.2.2.2.2.2.2.2.1 bt348.2.2.2.2.2.2.2.2).bind fun bt358 => ((spec_ArticleText.f k bt348.1 bt348.2.1 bt348.2.2.1 bt348.2.2.2.1 bt348.2.2.2.2.1 bt348.2.2.2.2.2.1 bt348.2.2.2.2.2.2.1 bt348.2.2.2.2.2.2.2.1 bt348.2.2.2.2.2.2.2.2).bind fun bt360 => ((spec_DrawReadArticle.f k l0).bind fun t362 => ((impl_ReadArticle.f k t362).bind fun bt363 => ((spec_ReadArticle.f k t362).bind fun bt374 => (if bt358.2 = bt360.2 then (if bt358.1.toList = bt360.1.toList then (if bt363.2.2.2.2.2.2.2.2.2 = bt374.2.2.2.2.2.2.2.2.2 then (if ((bt363.1.toList == bt374.1.toList && (bt363.2.1 == bt374.2.1 && (bt363.2.2.1 == bt374.2.2.1 && (bt363.2.2.2.1 == bt374.2.2.2.1 && (bt363.2.2.2.2.1 == bt374.2.2.2.2.1 && (bt363.2.2.2.2.2.1 == bt374.2.2.2.2.2.1 && (bt363.2.2.2.2.2.2.1 == bt374.2.2.2.2.2.2.1 && (bt363.2.2.2.2.2.2.2.1 == bt374.2.2.2.2.2.2.2.1 && (bt363.2.2.2.2.2.2.2.2.1 == bt374.2.2.2.2.2.2.2.2.1))))))))) = true) then ((impl_IsArticle.f k bt348.1 bt348.2.1 bt348.2.2.1 bt348.2.2.2.1 bt348.2.2.2.2.1 bt348.2.2.2.2.2.1 bt348.2.2.2.2.2.2.1 bt348.2.2.2.2.2.2.2.1 bt348.2.2.2.2.2.2.2.2).bind fun t385 => (laws_FnArticleTexts.j0 k bt358.1 bt358.2 t362 bt363.2.2.2.2.2.2.2.2.2 (t385 != (bt360.2 == 0)) bt348.1 bt348.2.1 bt348.2.2.1 bt348.2.2.2.1 bt348.2.2.2.2.1 bt348.2.2.2.2.2.1 bt348.2.2.2.2.2.2.1 bt348.2.2.2.2.2.2.2.1 bt348.2.2.2.2.2.2.2.2 bt363.1 bt363.2.1 bt363.2.2.1 bt363.2.2.2.1 bt363.2.2.2.2.1 bt363.2.2.2.2.2.1 bt363.2.2.2.2.2.2.1 bt363.2.2.2.2.2.2.2.1 bt363.2.2.2.2.2.2.2.2.1)) else (laws_FnArticleTexts.j0 k bt358.1 bt358.2 t362 bt363.2.2.2.2.2.2.2.2.2 true bt348.1 bt348.2.1 bt348.2.2.1 bt348.2.2.2.1 bt348.2.2.2.2.1 bt348.2.2.2.2.2.1 bt348.2.2.2.2.2.2.1 bt348.2.2.2.2.2.2.2.1 bt348.2.2.2.2.2.2.2.2 bt363.1 bt363.2.1 bt363.2.2.1 bt363.2.2.2.1 bt363.2.2.2.2.1 bt363.2.2.2.2.2.1 bt363.2.2.2.2.2.2.1 bt363.2.2.2.2.2.2.2.1 bt363.2.2.2.2.2.2.2.2.1)) else (laws_FnArticleTexts.j0 k bt358.1 bt358.2 t362 bt363.2.2.2.2.2.2.2.2.2 true bt348.1 bt348.2.1 bt348.2.2.1 bt348.2.2.2.1 bt348.2.2.2.2.1 bt348.2.2.2.2.2.1 bt348.2.2.2.2.2.2.1 bt348.2.2.2.2.2.2.2.1 bt348.2.2.2.2.2.2.2.2 bt363.1 bt363.2.1 bt363.2.2.1 bt363.2.2.2.1 bt363.2.2.2.2.1 bt363.2.2.2.2.2.1 bt363.2.2.2.2.2.2.1 bt363.2.2.2.2.2.2.2.1 bt363.2.2.2.2.2.2.2.2.1)) else (laws_FnArticleTexts.j0 k bt358.1 bt358.2 t362 bt363.2.2.2.2.2.2.2.2.2 true bt348.1 bt348.2.1 bt348.2.2.1 bt348.2.2.2.1 bt348.2.2.2.2.1 bt348.2.2.2.2.2.1 bt348.2.2.2.2.2.2.1 bt348.2.2.2.2.2.2.2.1 bt348.2.2.2.2.2.2.2.2 bt363.1 bt363.2.1 bt363.2.2.1 bt363.2.2.2.1 bt363.2.2.2.2.1 bt363.2.2.2.2.2.1 bt363.2.2.2.2.2.2.1 bt363.2.2.2.2.2.2.2.1 bt363.2.2.2.2.2.2.2.2.1)) else (laws_FnArticleTexts.j0 k bt358.1 bt358.2 t362 bt363.2.2.2.2.2.2.2.2.2 true bt348.1 bt348.2.1 bt348.2.2.1 bt348.2.2.2.1 bt348.2.2.2.2.1 bt348.2.2.2.2.2.1 bt348.2.2.2.2.2.2.1 bt348.2.2.2.2.2.2.2.1 bt348.2.2.2.2.2.2.2.2 bt363.1 bt363.2.1 bt363.2.2.1 bt363.2.2.2.1 bt363.2.2.2.2.1 bt363.2.2.2.2.2.1 bt363.2.2.2.2.2.2.1 bt363.2.2.2.2.2.2.2.1 bt363.2.2.2.2.2.2.2.2.1))))))))) = some r := H
 have A2 := Aside0.mk A20
 clear A20
 by_cases c3 : t347 = true
 ·
  subst c3
  have H1 : (some true) = some r := by rw [if_pos rfl] at H; exact H
  clear H
  have H := H1
  clear H1
  obtain rfl := Option.some.inj H
  simp only [Option.some.injEq, Prod.mk.injEq] at H
  obtain ⟨rfl⟩ := H
  go_enter Try.func4, Try.ntmps4
  go_wp2_with (first | ((with_reducible refine gate_callee (f := 19) rfl ?_); refine goesL_ (some 18) rfl rfl Try.func19 (by kernel_rfl) rfl #[.slice A0 l0.length c0] rfl (by (try simp only [List.map_toArray, List.map_cons, List.map_nil]); first | done | rfl | (go_simp; done) | simp) ?_; (with_reducible refine (laws_big.calls _ _ l0 true _ ?side1 ?side2 A2.out).mono ?_); (case side1 => repeat (first | exact HR0.out | (with_reducible first | apply cA | apply cN | apply cD))); (case side2 => exact HC0.out); rintro e w' ⟨rfl, ⟨nd, rfl⟩⟩; refine ⟨_, rfl, ?_⟩))
  go_ret
  exact ⟨by first | rfl | (simp [errW_none, errW_some] <;> rfl) | (simp [*, errW_none, errW_some] <;> rfl), by repeat (first | (with_reducible first | exact HB.out | apply lA | apply lN | apply lD) | exact HB.out)⟩
 ·
  replace c3 := Bool.eq_false_iff.mpr c3
  subst c3
  have H1 : ((spec_DrawArticleText.f k l0).bind fun bt348 => ((impl_ArticleText.f k bt348.1 bt348.2.1 bt348.2.2.1 bt348.2.2.2.1 bt348.2.2.2.2.1 bt348.2.2.2.2.2.1 bt348.2.2.2.2.2.2.1 bt348.2.2.2.2.2.2.2.1 bt348.2.2.2.2.2.2.2.2).bind fun bt358 => ((spec_ArticleText.f k bt348.1 bt348.2.1 bt348.2.2.1 bt348.2.2.2.1 bt348.2.2.2.2.1 bt348.2.2.2.2.2.1 bt348.2.2.2.2.2.2.1 bt348.2.2.2.2.2.2.2.1 bt348.2.2.2.2.2.2.2.2).bind fun bt360 => ((spec_DrawReadArticle.f k l0).bind fun t362 => ((impl_ReadArticle.f k t362).bind fun bt363 => ((spec_ReadArticle.f k t362).bind fun bt374 => (if bt358.2 = bt360.2 then (if bt358.1.toList = bt360.1.toList then (if bt363.2.2.2.2.2.2.2.2.2 = bt374.2.2.2.2.2.2.2.2.2 then (if ((bt363.1.toList == bt374.1.toList && (bt363.2.1 == bt374.2.1 && (bt363.2.2.1 == bt374.2.2.1 && (bt363.2.2.2.1 == bt374.2.2.2.1 && (bt363.2.2.2.2.1 == bt374.2.2.2.2.1 && (bt363.2.2.2.2.2.1 == bt374.2.2.2.2.2.1 && (bt363.2.2.2.2.2.2.1 == bt374.2.2.2.2.2.2.1 && (bt363.2.2.2.2.2.2.2.1 == bt374.2.2.2.2.2.2.2.1 && (bt363.2.2.2.2.2.2.2.2.1 == bt374.2.2.2.2.2.2.2.2.1))))))))) = true) then ((impl_IsArticle.f k bt348.1 bt348.2.1 bt348.2.2.1 bt348.2.2.2.1 bt348.2.2.2.2.1 bt348.2.2.2.2.2.1 bt348.2.2.2.2.2.2.1 bt348.2.2.2.2.2.2.2.1 bt348.2.2.2.2.2.2.2.2).bind fun t385 => (laws_FnArticleTexts.j0 k bt358.1 bt358.2 t362 bt363.2.2.2.2.2.2.2.2.2 (t385 != (bt360.2 == 0)) bt348.1 bt348.2.1 bt348.2.2.1 bt348.2.2.2.1 bt348.2.2.2.2.1 bt348.2.2.2.2.2.1 bt348.2.2.2.2.2.2.1 bt348.2.2.2.2.2.2.2.1 bt348.2.2.2.2.2.2.2.2 bt363.1 bt363.2.1 bt363.2.2.1 bt363.2.2.2.1 bt363.2.2.2.2.1 bt363.2.2.2.2.2.1 bt363.2.2.2.2.2.2.1 bt363.2.2.2.2.2.2.2.1 bt363.2.2.2.2.2.2.2.2.1)) else (laws_FnArticleTexts.j0 k bt358.1 bt358.2 t362 bt363.2.2.2.2.2.2.2.2.2 true bt348.1 bt348.2.1 bt348.2.2.1 bt348.2.2.2.1 bt348.2.2.2.2.1 bt348.2.2.2.2.2.1 bt348.2.2.2.2.2.2.1 bt348.2.2.2.2.2.2.2.1 bt348.2.2.2.2.2.2.2.2 bt363.1 bt363.2.1 bt363.2.2.1 bt363.2.2.2.1 bt363.2.2.2.2.1 bt363.2.2.2.2.2.1 bt363.2.2.2.2.2.2.1 bt363.2.2.2.2.2.2.2.1 bt363.2.2.2.2.2.2.2.2.1)) else (laws_FnArticleTexts.j0 k bt358.1 bt358.2 t362 bt363.2.2.2.2.2.2.2.2.2 true bt348.1 bt348.2.1 bt348.2.2.1 bt348.2.2.2.1 bt348.2.2.2.2.1 bt348.2.2.2.2.2.1 bt348.2.2.2.2.2.2.1 bt348.2.2.2.2.2.2.2.1 bt348.2.2.2.2.2.2.2.2 bt363.1 bt363.2.1 bt363.2.2.1 bt363.2.2.2.1 bt363.2.2.2.2.1 bt363.2.2.2.2.2.1 bt363.2.2.2.2.2.2.1 bt363.2.2.2.2.2.2.2.1 bt363.2.2.2.2.2.2.2.2.1)) else (laws_FnArticleTexts.j0 k bt358.1 bt358.2 t362 bt363.2.2.2.2.2.2.2.2.2 true bt348.1 bt348.2.1 bt348.2.2.1 bt348.2.2.2.1 bt348.2.2.2.2.1 bt348.2.2.2.2.2.1 bt348.2.2.2.2.2.2.1 bt348.2.2.2.2.2.2.2.1 bt348.2.2.2.2.2.2.2.2 bt363.1 bt363.2.1 bt363.2.2.1 bt363.2.2.2.1 bt363.2.2.2.2.1 bt363.2.2.2.2.2.1 bt363.2.2.2.2.2.2.1 bt363.2.2.2.2.2.2.2.1 bt363.2.2.2.2.2.2.2.2.1)) else (laws_FnArticleTexts.j0 k bt358.1 bt358.2 t362 bt363.2.2.2.2.2.2.2.2.2 true bt348.1 bt348.2.1 bt348.2.2.1 bt348.2.2.2.1 bt348.2.2.2.2.1 bt348.2.2.2.2.2.1 bt348.2.2.2.2.2.2.1 bt348.2.2.2.2.2.2.2.1 bt348.2.2.2.2.2.2.2.2 bt363.1 bt363.2.1 bt363.2.2.1 bt363.2.2.2.1 bt363.2.2.2.2.1 bt363.2.2.2.2.2.1 bt363.2.2.2.2.2.2.1 bt363.2.2.2.2.2.2.2.1 bt363.2.2.2.2.2.2.2.2.1)))))))) = some r := by rw [if_neg (show ¬ (false = true) by decide)] at H; exact H
  clear H
  have H := H1
  clear H1
  replace H := Option.bind_eq_some_iff.mp H
  obtain ⟨⟨t348, t349, t350, t351, t352, t353, t354, t355, t356⟩, A40, H⟩ := H
  replace H : ((impl_ArticleText.f k t348 t349 t350 t351 t352 t353 t354 t355 t356).bind fun bt358 => ((spec_ArticleText.f k t348 t349 t350 t351 t352 t353 t354 t355 t356).bind fun bt360 => ((spec_DrawReadArticle.f k l0).bind fun t362 => ((impl_ReadArticle.f k t362).bind fun bt363 => ((spec_ReadArticle.f k t362).bind fun bt374 => (if bt358.2 = bt360.2 then (if bt358.1.toList = bt360.1.toList then (if bt363.2.2.2.2.2.2.2.2.2 = bt374.2.2.2.2.2.2.2.2.2 then (if ((bt363.1.toList == bt374.1.toList && (bt363.2.1 == bt374.2.1 && (bt363.2.2.1 == bt374.2.2.1 && (bt363.2.2.2.1 == bt374.2.2.2.1 && (bt363.2.2.2.2.1 == bt374.2.2.2.2.1 && (bt363.2.2.2.2.2.1 == bt374.2.2.2.2.2.1 && (bt363.2.2.2.2.2.2.1 == bt374.2.2.2.2.2.2.1 && (bt363.2.2.2.2.2.2.2.1 == bt374.2.2.2.2.2.2.2.1 && (bt363.2.2.2.2.2.2.2.2.1 == bt374.2.2.2.2.2.2.2.2.1))))))))) = true) then ((impl_IsArticle.f k t348 t349 t350 t351 t352 t353 t354 t355 t356).bind fun t385 => (laws_FnArticleTexts.j0 k bt358.1 bt358.2 t362 bt363.2.2.2.2.2.2.2.2.2 (t385 != (bt360.2 == 0)) t348 t349 t350 t351 t352 t353 t354 t355 t356 bt363.1 bt363.2.1 bt363.2.2.1 bt363.2.2.2.1 bt363.2.2.2.2.1 bt363.2.2.2.2.2.1 bt363.2.2.2.2.2.2.1 bt363.2.2.2.2.2.2.2.1 bt363.2.2.2.2.2.2.2.2.1)) else (laws_FnArticleTexts.j0 k bt358.1 bt358.2 t362 bt363.2.2.2.2.2.2.2.2.2 true t348 t349 t350 t351 t352 t353 t354 t355 t356 bt363.1 bt363.2.1 bt363.2.2.1 bt363.2.2.2.1 bt363.2.2.2.2.1 bt363.2.2.2.2.2.1 bt363.2.2.2.2.2.2.1 bt363.2.2.2.2.2.2.2.1 bt363.2.2.2.2.2.2.2.2.1)) else (laws_FnArticleTexts.j0 k bt358.1 bt358.2 t362 bt363.2.2.2.2.2.2.2.2.2 true t348 t349 t350 t351 t352 t353 t354 t355 t356 bt363.1 bt363.2.1 bt363.2.2.1 bt363.2.2.2.1 bt363.2.2.2.2.1 bt363.2.2.2.2.2.1 bt363.2.2.2.2.2.2.1 bt363.2.2.2.2.2.2.2.1 bt363.2.2.2.2.2.2.2.2.1)) else (laws_FnArticleTexts.j0 k bt358.1 bt358.2 t362 bt363.2.2.2.2.2.2.2.2.2 true t348 t349 t350 t351 t352 t353 t354 t355 t356 bt363.1 bt363.2.1 bt363.2.2.1 bt363.2.2.2.1 bt363.2.2.2.2.1 bt363.2.2.2.2.2.1 bt363.2.2.2.2.2.2.1 bt363.2.2.2.2.2.2.2.1 bt363.2.2.2.2.2.2.2.2.1)) else (laws_FnArticleTexts.j0 k bt358.1 bt358.2 t362 bt363.2.2.2.2.2.2.2.2.2 true t348 t349 t350 t351 t352 t353 t354 t355 t356 bt363.1 bt363.2.1 bt363.2.2.1 bt363.2.2.2.1 bt363.2.2.2.2.1 bt363.2.2.2.2.2.1 bt363.2.2.2.2.2.2.1 bt363.2.2.2.2.2.2.2.1 bt363.2.2.2.2.2.2.2.2.1))))))) = some r := H
  have A4 := Aside0.mk A40
  clear A40
  replace H := Option.bind_eq_some_iff.mp H
  obtain ⟨⟨t358, t359⟩, A50, H⟩ := H
  replace H : ((spec_ArticleText.f k t348 t349 t350 t351 t352 t353 t354 t355 t356).bind fun bt360 => ((spec_DrawReadArticle.f k l0).bind fun t362 => ((impl_ReadArticle.f k t362).bind fun bt363 => ((spec_ReadArticle.f k t362).bind fun bt374 => (if t359 = bt360.2 then (if t358.toList = bt360.1.toList then (if bt363.2.2.2.2.2.2.2.2.2 = bt374.2.2.2.2.2.2.2.2.2 then (if ((bt363.1.toList == bt374.1.toList && (bt363.2.1 == bt374.2.1 && (bt363.2.2.1 == bt374.2.2.1 && (bt363.2.2.2.1 == bt374.2.2.2.1 && (bt363.2.2.2.2.1 == bt374.2.2.2.2.1 && (bt363.2.2.2.2.2.1 == bt374.2.2.2.2.2.1 && (bt363.2.2.2.2.2.2.1 == bt374.2.2.2.2.2.2.1 && (bt363.2.2.2.2.2.2.2.1 == bt374.2.2.2.2.2.2.2.1 && (bt363.2.2.2.2.2.2.2.2.1 == bt374.2.2.2.2.2.2.2.2.1))))))))) = true) then ((impl_IsArticle.f k t348 t349 t350 t351 t352 t353 t354 t355 t356).bind fun t385 => (laws_FnArticleTexts.j0 k t358 t359 t362 bt363.2.2.2.2.2.2.2.2.2 (t385 != (bt360.2 == 0)) t348 t349 t350 t351 t352 t353 t354 t355 t356 bt363.1 bt363.2.1 bt363.2.2.1 bt363.2.2.2.1 bt363.2.2.2.2.1 bt363.2.2.2.2.2.1 bt363.2.2.2.2.2.2.1 bt363.2.2.2.2.2.2.2.1 bt363.2.2.2.2.2.2.2.2.1)) else (laws_FnArticleTexts.j0 k t358 t359 t362 bt363.2.2.2.2.2.2.2.2.2 true t348 t349 t350 t351 t352 t353 t354 t355 t356 bt363.1 bt363.2.1 bt363.2.2.1 bt363.2.2.2.1 bt363.2.2.2.2.1 bt363.2.2.2.2.2.1 bt363.2.2.2.2.2.2.1 bt363.2.2.2.2.2.2.2.1 bt363.2.2.2.2.2.2.2.2.1)) else (laws_FnArticleTexts.j0 k t358 t359 t362 bt363.2.2.2.2.2.2.2.2.2 true t348 t349 t350 t351 t352 t353 t354 t355 t356 bt363.1 bt363.2.1 bt363.2.2.1 bt363.2.2.2.1 bt363.2.2.2.2.1 bt363.2.2.2.2.2.1 bt363.2.2.2.2.2.2.1 bt363.2.2.2.2.2.2.2.1 bt363.2.2.2.2.2.2.2.2.1)) else (laws_FnArticleTexts.j0 k t358 t359 t362 bt363.2.2.2.2.2.2.2.2.2 true t348 t349 t350 t351 t352 t353 t354 t355 t356 bt363.1 bt363.2.1 bt363.2.2.1 bt363.2.2.2.1 bt363.2.2.2.2.1 bt363.2.2.2.2.2.1 bt363.2.2.2.2.2.2.1 bt363.2.2.2.2.2.2.2.1 bt363.2.2.2.2.2.2.2.2.1)) else (laws_FnArticleTexts.j0 k t358 t359 t362 bt363.2.2.2.2.2.2.2.2.2 true t348 t349 t350 t351 t352 t353 t354 t355 t356 bt363.1 bt363.2.1 bt363.2.2.1 bt363.2.2.2.1 bt363.2.2.2.2.1 bt363.2.2.2.2.2.1 bt363.2.2.2.2.2.2.1 bt363.2.2.2.2.2.2.2.1 bt363.2.2.2.2.2.2.2.2.1)))))) = some r := H
  have A5 := Aside0.mk A50
  clear A50
  replace H := Option.bind_eq_some_iff.mp H
  obtain ⟨⟨t360, t361⟩, A60, H⟩ := H
  replace H : ((spec_DrawReadArticle.f k l0).bind fun t362 => ((impl_ReadArticle.f k t362).bind fun bt363 => ((spec_ReadArticle.f k t362).bind fun bt374 => (if t359 = t361 then (if t358.toList = t360.toList then (if bt363.2.2.2.2.2.2.2.2.2 = bt374.2.2.2.2.2.2.2.2.2 then (if ((bt363.1.toList == bt374.1.toList && (bt363.2.1 == bt374.2.1 && (bt363.2.2.1 == bt374.2.2.1 && (bt363.2.2.2.1 == bt374.2.2.2.1 && (bt363.2.2.2.2.1 == bt374.2.2.2.2.1 && (bt363.2.2.2.2.2.1 == bt374.2.2.2.2.2.1 && (bt363.2.2.2.2.2.2.1 == bt374.2.2.2.2.2.2.1 && (bt363.2.2.2.2.2.2.2.1 == bt374.2.2.2.2.2.2.2.1 && (bt363.2.2.2.2.2.2.2.2.1 == bt374.2.2.2.2.2.2.2.2.1))))))))) = true) then ((impl_IsArticle.f k t348 t349 t350 t351 t352 t353 t354 t355 t356).bind fun t385 => (laws_FnArticleTexts.j0 k t358 t359 t362 bt363.2.2.2.2.2.2.2.2.2 (t385 != (t361 == 0)) t348 t349 t350 t351 t352 t353 t354 t355 t356 bt363.1 bt363.2.1 bt363.2.2.1 bt363.2.2.2.1 bt363.2.2.2.2.1 bt363.2.2.2.2.2.1 bt363.2.2.2.2.2.2.1 bt363.2.2.2.2.2.2.2.1 bt363.2.2.2.2.2.2.2.2.1)) else (laws_FnArticleTexts.j0 k t358 t359 t362 bt363.2.2.2.2.2.2.2.2.2 true t348 t349 t350 t351 t352 t353 t354 t355 t356 bt363.1 bt363.2.1 bt363.2.2.1 bt363.2.2.2.1 bt363.2.2.2.2.1 bt363.2.2.2.2.2.1 bt363.2.2.2.2.2.2.1 bt363.2.2.2.2.2.2.2.1 bt363.2.2.2.2.2.2.2.2.1)) else (laws_FnArticleTexts.j0 k t358 t359 t362 bt363.2.2.2.2.2.2.2.2.2 true t348 t349 t350 t351 t352 t353 t354 t355 t356 bt363.1 bt363.2.1 bt363.2.2.1 bt363.2.2.2.1 bt363.2.2.2.2.1 bt363.2.2.2.2.2.1 bt363.2.2.2.2.2.2.1 bt363.2.2.2.2.2.2.2.1 bt363.2.2.2.2.2.2.2.2.1)) else (laws_FnArticleTexts.j0 k t358 t359 t362 bt363.2.2.2.2.2.2.2.2.2 true t348 t349 t350 t351 t352 t353 t354 t355 t356 bt363.1 bt363.2.1 bt363.2.2.1 bt363.2.2.2.1 bt363.2.2.2.2.1 bt363.2.2.2.2.2.1 bt363.2.2.2.2.2.2.1 bt363.2.2.2.2.2.2.2.1 bt363.2.2.2.2.2.2.2.2.1)) else (laws_FnArticleTexts.j0 k t358 t359 t362 bt363.2.2.2.2.2.2.2.2.2 true t348 t349 t350 t351 t352 t353 t354 t355 t356 bt363.1 bt363.2.1 bt363.2.2.1 bt363.2.2.2.1 bt363.2.2.2.2.1 bt363.2.2.2.2.2.1 bt363.2.2.2.2.2.2.1 bt363.2.2.2.2.2.2.2.1 bt363.2.2.2.2.2.2.2.2.1))))) = some r := H
  have A6 := Aside0.mk A60
  clear A60
  replace H := Option.bind_eq_some_iff.mp H
  obtain ⟨t362, A70, H⟩ := H
  replace H : ((impl_ReadArticle.f k t362).bind fun bt363 => ((spec_ReadArticle.f k t362).bind fun bt374 => (if t359 = t361 then (if t358.toList = t360.toList then (if bt363.2.2.2.2.2.2.2.2.2 = bt374.2.2.2.2.2.2.2.2.2 then (if ((bt363.1.toList == bt374.1.toList && (bt363.2.1 == bt374.2.1 && (bt363.2.2.1 == bt374.2.2.1 && (bt363.2.2.2.1 == bt374.2.2.2.1 && (bt363.2.2.2.2.1 == bt374.2.2.2.2.1 && (bt363.2.2.2.2.2.1 == bt374.2.2.2.2.2.1 && (bt363.2.2.2.2.2.2.1 == bt374.2.2.2.2.2.2.1 && (bt363.2.2.2.2.2.2.2.1 == bt374.2.2.2.2.2.2.2.1 && (bt363.2.2.2.2.2.2.2.2.1 == bt374.2.2.2.2.2.2.2.2.1))))))))) = true) then ((impl_IsArticle.f k t348 t349 t350 t351 t352 t353 t354 t355 t356).bind fun t385 => (laws_FnArticleTexts.j0 k t358 t359 t362 bt363.2.2.2.2.2.2.2.2.2 (t385 != (t361 == 0)) t348 t349 t350 t351 t352 t353 t354 t355 t356 bt363.1 bt363.2.1 bt363.2.2.1 bt363.2.2.2.1 bt363.2.2.2.2.1 bt363.2.2.2.2.2.1 bt363.2.2.2.2.2.2.1 bt363.2.2.2.2.2.2.2.1 bt363.2.2.2.2.2.2.2.2.1)) else (laws_FnArticleTexts.j0 k t358 t359 t362 bt363.2.2.2.2.2.2.2.2.2 true t348 t349 t350 t351 t352 t353 t354 t355 t356 bt363.1 bt363.2.1 bt363.2.2.1 bt363.2.2.2.1 bt363.2.2.2.2.1 bt363.2.2.2.2.2.1 bt363.2.2.2.2.2.2.1 bt363.2.2.2.2.2.2.2.1 bt363.2.2.2.2.2.2.2.2.1)) else (laws_FnArticleTexts.j0 k t358 t359 t362 bt363.2.2.2.2.2.2.2.2.2 true t348 t349 t350 t351 t352 t353 t354 t355 t356 bt363.1 bt363.2.1 bt363.2.2.1 bt363.2.2.2.1 bt363.2.2.2.2.1 bt363.2.2.2.2.2.1 bt363.2.2.2.2.2.2.1 bt363.2.2.2.2.2.2.2.1 bt363.2.2.2.2.2.2.2.2.1)) else (laws_FnArticleTexts.j0 k t358 t359 t362 bt363.2.2.2.2.2.2.2.2.2 true t348 t349 t350 t351 t352 t353 t354 t355 t356 bt363.1 bt363.2.1 bt363.2.2.1 bt363.2.2.2.1 bt363.2.2.2.2.1 bt363.2.2.2.2.2.1 bt363.2.2.2.2.2.2.1 bt363.2.2.2.2.2.2.2.1 bt363.2.2.2.2.2.2.2.2.1)) else (laws_FnArticleTexts.j0 k t358 t359 t362 bt363.2.2.2.2.2.2.2.2.2 true t348 t349 t350 t351 t352 t353 t354 t355 t356 bt363.1 bt363.2.1 bt363.2.2.1 bt363.2.2.2.1 bt363.2.2.2.2.1 bt363.2.2.2.2.2.1 bt363.2.2.2.2.2.2.1 bt363.2.2.2.2.2.2.2.1 bt363.2.2.2.2.2.2.2.2.1)))) = some r := H
  have A7 := Aside0.mk A70
  clear A70
  replace H := Option.bind_eq_some_iff.mp H
  obtain ⟨⟨t363, t364, t365, t366, t367, t368, t369, t370, t371, t372⟩, A80, H⟩ := H
  replace H : ((spec_ReadArticle.f k t362).bind fun bt374 => (if t359 = t361 then (if t358.toList = t360.toList then (if t372 = bt374.2.2.2.2.2.2.2.2.2 then (if ((t363.toList == bt374.1.toList && (t364 == bt374.2.1 && (t365 == bt374.2.2.1 && (t366 == bt374.2.2.2.1 && (t367 == bt374.2.2.2.2.1 && (t368 == bt374.2.2.2.2.2.1 && (t369 == bt374.2.2.2.2.2.2.1 && (t370 == bt374.2.2.2.2.2.2.2.1 && (t371 == bt374.2.2.2.2.2.2.2.2.1))))))))) = true) then ((impl_IsArticle.f k t348 t349 t350 t351 t352 t353 t354 t355 t356).bind fun t385 => (laws_FnArticleTexts.j0 k t358 t359 t362 t372 (t385 != (t361 == 0)) t348 t349 t350 t351 t352 t353 t354 t355 t356 t363 t364 t365 t366 t367 t368 t369 t370 t371)) else (laws_FnArticleTexts.j0 k t358 t359 t362 t372 true t348 t349 t350 t351 t352 t353 t354 t355 t356 t363 t364 t365 t366 t367 t368 t369 t370 t371)) else (laws_FnArticleTexts.j0 k t358 t359 t362 t372 true t348 t349 t350 t351 t352 t353 t354 t355 t356 t363 t364 t365 t366 t367 t368 t369 t370 t371)) else (laws_FnArticleTexts.j0 k t358 t359 t362 t372 true t348 t349 t350 t351 t352 t353 t354 t355 t356 t363 t364 t365 t366 t367 t368 t369 t370 t371)) else (laws_FnArticleTexts.j0 k t358 t359 t362 t372 true t348 t349 t350 t351 t352 t353 t354 t355 t356 t363 t364 t365 t366 t367 t368 t369 t370 t371))) = some r := H
  have A8 := Aside0.mk A80
  clear A80
  replace H := Option.bind_eq_some_iff.mp H
  obtain ⟨⟨t374, t375, t376, t377, t378, t379, t380, t381, t382, t383⟩, A90, H⟩ := H
  replace H : (if t359 = t361 then (if t358.toList = t360.toList then (if t372 = t383 then (if ((t363.toList == t374.toList && (t364 == t375 && (t365 == t376 && (t366 == t377 && (t367 == t378 && (t368 == t379 && (t369 == t380 && (t370 == t381 && (t371 == t382))))))))) = true) then ((impl_IsArticle.f k t348 t349 t350 t351 t352 t353 t354 t355 t356).bind fun t385 => (laws_FnArticleTexts.j0 k t358 t359 t362 t372 (t385 != (t361 == 0)) t348 t349 t350 t351 t352 t353 t354 t355 t356 t363 t364 t365 t366 t367 t368 t369 t370 t371)) else (laws_FnArticleTexts.j0 k t358 t359 t362 t372 true t348 t349 t350 t351 t352 t353 t354 t355 t356 t363 t364 t365 t366 t367 t368 t369 t370 t371)) else (laws_FnArticleTexts.j0 k t358 t359 t362 t372 true t348 t349 t350 t351 t352 t353 t354 t355 t356 t363 t364 t365 t366 t367 t368 t369 t370 t371)) else (laws_FnArticleTexts.j0 k t358 t359 t362 t372 true t348 t349 t350 t351 t352 t353 t354 t355 t356 t363 t364 t365 t366 t367 t368 t369 t370 t371)) else (laws_FnArticleTexts.j0 k t358 t359 t362 t372 true t348 t349 t350 t351 t352 t353 t354 t355 t356 t363 t364 t365 t366 t367 t368 t369 t370 t371)) = some r := H
  have A9 := Aside0.mk A90
  clear A90
  have HC10 := Aside0.mk H
  clear H
  go_enter Try.func4, Try.ntmps4
  go_upto_region 9 with (first | ((with_reducible refine gate_callee (f := 19) rfl ?_); refine goesL_ (some 18) rfl rfl Try.func19 (by kernel_rfl) rfl #[.slice A0 l0.length c0] rfl (by (try simp only [List.map_toArray, List.map_cons, List.map_nil]); first | done | rfl | (go_simp; done) | simp) ?_; (with_reducible refine (laws_big.calls _ _ l0 false _ ?side1 ?side2 A2.out).mono ?_); (case side1 => repeat (first | exact HR0.out | (with_reducible first | apply cA | apply cN | apply cD))); (case side2 => exact HC0.out); rintro e w' ⟨rfl, ⟨nd, rfl⟩⟩; refine ⟨_, rfl, ?_⟩) | ((with_reducible refine gate_callee (f := 20) rfl ?_); refine goesL_ (some 20) rfl rfl Try.func20 (by kernel_rfl) rfl #[.slice A0 l0.length c0] rfl (by (try simp only [List.map_toArray, List.map_cons, List.map_nil]); first | done | rfl | (go_simp; done) | simp) ?_; (with_reducible refine (spec_DrawArticleText.calls k _ _ l0 t348 t349 t350 t351 t352 t353 t354 t355 t356 _ ?side1 ?side2 A4.out).mono ?_); (case side1 => repeat (first | exact HR0.out | (with_reducible first | apply cA | apply cN | apply cD))); (case side2 => exact HC0.out); rintro e w11 ⟨rfl, hb⟩; refine ⟨_, rfl, ?_⟩; have n0_ := Aside0.mk (below_step (by repeat (first | (with_reducible first | exact HB.out | apply lA | apply lN | apply lD) | exact HB.out)) hb); clear HB; have HB := n0_; clear n0_; (try clear hb); (try clear hb2); (try clear hk); (try clear hi)) | ((with_reducible refine gate_dst (N := 3) rfl ?_); refine box_event ?hg (N := 3) ?hd (cs := #[.string (⟨#[]⟩ : ByteArray), .int .i64 0, .int .i64 0, .int .i64 0, .int .i64 0, .int .i64 0, .int .i64 0, .int .i64 0, .int .i64 0]) (t := 26) ?hr ?_; (case hd => rfl); (case hg => rfl); (case hr => first | (go_simp; done) | (go_simp; rfl)); intro gb357 hg w12 hbox hb; have n0_ := Aside0.mk (below_step (by repeat (first | (with_reducible first | exact HB.out | apply lA | apply lN | apply lD) | exact HB.out)) hb); have n1_ := Aside0.mk (hbox); have n2_ := Aside0.mk ((by rw [hg]; exact (below_size (by repeat (first | (with_reducible first | exact HB.out | apply lA | apply lN | apply lD) | exact HB.out))) : w.heap.size ≤ gb357)); have n3_ := Aside0.mk ((by rw [hg]; exact (below_size (by repeat (first | (with_reducible first | exact HB.out | apply lA | apply lN | apply lD) | exact HB.out))) : w.heap.size ≤ gb357)); clear HB; have HB := n0_; have BK357 := n1_; have GW357 := n2_; have GE357 := n3_; clear n0_ n1_ n2_ n3_; clear hb hbox hg; have hcz13_0 : w12.cell? ⟨gb357, 0, none⟩ = some (.string (⟨#[]⟩ : ByteArray)) := (blk_cell BK357.out 0).trans rfl; have hcz13_1 : w12.cell? ⟨gb357, 1, none⟩ = some (.int .i64 0) := (blk_cell BK357.out 1).trans rfl; have hcz13_2 : w12.cell? ⟨gb357, 2, none⟩ = some (.int .i64 0) := (blk_cell BK357.out 2).trans rfl; have hcz13_3 : w12.cell? ⟨gb357, 3, none⟩ = some (.int .i64 0) := (blk_cell BK357.out 3).trans rfl; have hcz13_4 : w12.cell? ⟨gb357, 4, none⟩ = some (.int .i64 0) := (blk_cell BK357.out 4).trans rfl; have hcz13_5 : w12.cell? ⟨gb357, 5, none⟩ = some (.int .i64 0) := (blk_cell BK357.out 5).trans rfl; have hcz13_6 : w12.cell? ⟨gb357, 6, none⟩ = some (.int .i64 0) := (blk_cell BK357.out 6).trans rfl; have hcz13_7 : w12.cell? ⟨gb357, 7, none⟩ = some (.int .i64 0) := (blk_cell BK357.out 7).trans rfl; have hcz13_8 : w12.cell? ⟨gb357, 8, none⟩ = some (.int .i64 0) := (blk_cell BK357.out 8).trans rfl; have hfz13_0 := blk_frozen BK357.out 0; have hfz13_1 := blk_frozen BK357.out 1; have hfz13_2 := blk_frozen BK357.out 2; have hfz13_3 := blk_frozen BK357.out 3; have hfz13_4 := blk_frozen BK357.out 4; have hfz13_5 := blk_frozen BK357.out 5; have hfz13_6 := blk_frozen BK357.out 6; have hfz13_7 := blk_frozen BK357.out 7; have hfz13_8 := blk_frozen BK357.out 8) | ((with_reducible refine gate_callee (f := 21) rfl ?_); refine goesL_ (some 23) rfl rfl Try.func21 (by kernel_rfl) rfl #[.agg #[.string t348, .int .i64 t349, .int .i64 t350, .int .i64 t351, .int .i64 t352, .int .i64 t353, .int .i64 t354, .int .i64 t355, .int .i64 t356]] rfl (by (try simp only [List.map_toArray, List.map_cons, List.map_nil]); first | done | rfl | (go_simp; done) | simp) ?_; (with_reducible refine (impl_ArticleText.calls k t348 t349 t350 t351 t352 t353 t354 t355 t356 t358 t359 _ A5.out).mono ?_); rintro e w14 ⟨rfl, hb⟩; refine ⟨_, rfl, ?_⟩; have n0_ := Aside0.mk (blk_below (g := gb357) (o := .cells #[.string t348, .int .i64 t349, .int .i64 t350, .int .i64 t351, .int .i64 t352, .int .i64 t353, .int .i64 t354, .int .i64 t355, .int .i64 t356] 26 (0, 0)) (by (with_reducible repeat first | apply bN | apply bD | apply bA); refine blk_put (cs := #[.string t348, .int .i64 t349, .int .i64 t350, .int .i64 t351, .int .i64 t352, .int .i64 t353, .int .i64 t354, .int .i64 t355, .int .i64 0]) ?_ 8 _ rfl; (with_reducible repeat first | apply bN | apply bD | apply bA); refine blk_put (cs := #[.string t348, .int .i64 t349, .int .i64 t350, .int .i64 t351, .int .i64 t352, .int .i64 t353, .int .i64 t354, .int .i64 0, .int .i64 0]) ?_ 7 _ rfl; (with_reducible repeat first | apply bN | apply bD | apply bA); refine blk_put (cs := #[.string t348, .int .i64 t349, .int .i64 t350, .int .i64 t351, .int .i64 t352, .int .i64 t353, .int .i64 0, .int .i64 0, .int .i64 0]) ?_ 6 _ rfl; (with_reducible repeat first | apply bN | apply bD | apply bA); refine blk_put (cs := #[.string t348, .int .i64 t349, .int .i64 t350, .int .i64 t351, .int .i64 t352, .int .i64 0, .int .i64 0, .int .i64 0, .int .i64 0]) ?_ 5 _ rfl; (with_reducible repeat first | apply bN | apply bD | apply bA); refine blk_put (cs := #[.string t348, .int .i64 t349, .int .i64 t350, .int .i64 t351, .int .i64 0, .int .i64 0, .int .i64 0, .int .i64 0, .int .i64 0]) ?_ 4 _ rfl; (with_reducible repeat first | apply bN | apply bD | apply bA); refine blk_put (cs := #[.string t348, .int .i64 t349, .int .i64 t350, .int .i64 0, .int .i64 0, .int .i64 0, .int .i64 0, .int .i64 0, .int .i64 0]) ?_ 3 _ rfl; (with_reducible repeat first | apply bN | apply bD | apply bA); refine blk_put (cs := #[.string t348, .int .i64 t349, .int .i64 0, .int .i64 0, .int .i64 0, .int .i64 0, .int .i64 0, .int .i64 0, .int .i64 0]) ?_ 2 _ rfl; (with_reducible repeat first | apply bN | apply bD | apply bA); refine blk_put (cs := #[.string t348, .int .i64 0, .int .i64 0, .int .i64 0, .int .i64 0, .int .i64 0, .int .i64 0, .int .i64 0, .int .i64 0]) ?_ 1 _ rfl; (with_reducible repeat first | apply bN | apply bD | apply bA); refine blk_put (cs := #[.string (⟨#[]⟩ : ByteArray), .int .i64 0, .int .i64 0, .int .i64 0, .int .i64 0, .int .i64 0, .int .i64 0, .int .i64 0, .int .i64 0]) ?_ 0 _ rfl; (with_reducible repeat first | apply bN | apply bD | apply bA); exact BK357.out) hb); have n1_ := Aside0.mk (below_step (by repeat (first | (with_reducible first | exact HB.out | apply lA | apply lN | apply lD | refine below_set ?_ GE357.out) | exact HB.out)) hb); clear BK357; clear HB; have BK357 := n0_; have HB := n1_; clear n0_ n1_; (try clear hb); (try clear hb2); (try clear hk); (try clear hi); have hcz15_0 : w14.cell? ⟨gb357, 0, none⟩ = some (.string t348) := (blk_cell BK357.out 0).trans rfl; have hcz15_1 : w14.cell? ⟨gb357, 1, none⟩ = some (.int .i64 t349) := (blk_cell BK357.out 1).trans rfl; have hcz15_2 : w14.cell? ⟨gb357, 2, none⟩ = some (.int .i64 t350) := (blk_cell BK357.out 2).trans rfl; have hcz15_3 : w14.cell? ⟨gb357, 3, none⟩ = some (.int .i64 t351) := (blk_cell BK357.out 3).trans rfl; have hcz15_4 : w14.cell? ⟨gb357, 4, none⟩ = some (.int .i64 t352) := (blk_cell BK357.out 4).trans rfl; have hcz15_5 : w14.cell? ⟨gb357, 5, none⟩ = some (.int .i64 t353) := (blk_cell BK357.out 5).trans rfl; have hcz15_6 : w14.cell? ⟨gb357, 6, none⟩ = some (.int .i64 t354) := (blk_cell BK357.out 6).trans rfl; have hcz15_7 : w14.cell? ⟨gb357, 7, none⟩ = some (.int .i64 t355) := (blk_cell BK357.out 7).trans rfl; have hcz15_8 : w14.cell? ⟨gb357, 8, none⟩ = some (.int .i64 t356) := (blk_cell BK357.out 8).trans rfl; have hfz15_0 := blk_frozen BK357.out 0; have hfz15_1 := blk_frozen BK357.out 1; have hfz15_2 := blk_frozen BK357.out 2; have hfz15_3 := blk_frozen BK357.out 3; have hfz15_4 := blk_frozen BK357.out 4; have hfz15_5 := blk_frozen BK357.out 5; have hfz15_6 := blk_frozen BK357.out 6; have hfz15_7 := blk_frozen BK357.out 7; have hfz15_8 := blk_frozen BK357.out 8) | ((with_reducible refine gate_callee (f := 22) rfl ?_); refine goesL_ (some 28) rfl rfl Try.func22 (by kernel_rfl) rfl #[.agg #[.string t348, .int .i64 t349, .int .i64 t350, .int .i64 t351, .int .i64 t352, .int .i64 t353, .int .i64 t354, .int .i64 t355, .int .i64 t356]] rfl (by (try simp only [List.map_toArray, List.map_cons, List.map_nil]); first | done | rfl | (go_simp; done) | simp) ?_; (with_reducible refine (spec_ArticleText.calls k t348 t349 t350 t351 t352 t353 t354 t355 t356 t360 t361 _ A6.out).mono ?_); rintro e w16 ⟨rfl, hb⟩; refine ⟨_, rfl, ?_⟩; have n0_ := Aside0.mk (blk_below (g := gb357) (o := .cells #[.string t348, .int .i64 t349, .int .i64 t350, .int .i64 t351, .int .i64 t352, .int .i64 t353, .int .i64 t354, .int .i64 t355, .int .i64 t356] 26 (0, 0)) (by (with_reducible repeat first | apply bN | apply bD | apply bA); exact BK357.out) hb); have n1_ := Aside0.mk (below_step (by repeat (first | (with_reducible first | exact HB.out | apply lA | apply lN | apply lD | refine below_set ?_ GE357.out) | exact HB.out)) hb); clear BK357; clear HB; have BK357 := n0_; have HB := n1_; clear n0_ n1_; (try clear hb); (try clear hb2); (try clear hk); (try clear hi)) | ((with_reducible refine gate_callee (f := 23) rfl ?_); refine goesL_ (some 32) rfl rfl Try.func23 (by kernel_rfl) rfl #[.slice A0 l0.length c0] rfl (by (try simp only [List.map_toArray, List.map_cons, List.map_nil]); first | done | rfl | (go_simp; done) | simp) ?_; (with_reducible refine (spec_DrawReadArticle.calls k _ _ l0 t362 _ ?side1 ?side2 A7.out).mono ?_); (case side1 => repeat (first | exact (Kd.C_below HR0.out HB.out) | (with_reducible first | apply cA | apply cN | apply cD))); (case side2 => exact HC0.out); rintro e w17 ⟨rfl, hb⟩; refine ⟨_, rfl, ?_⟩; have n0_ := Aside0.mk (blk_below (g := gb357) (o := .cells #[.string t348, .int .i64 t349, .int .i64 t350, .int .i64 t351, .int .i64 t352, .int .i64 t353, .int .i64 t354, .int .i64 t355, .int .i64 t356] 26 (0, 0)) (by (with_reducible repeat first | apply bN | apply bD | apply bA); exact BK357.out) hb); have n1_ := Aside0.mk (below_step (by repeat (first | (with_reducible first | exact HB.out | apply lA | apply lN | apply lD | refine below_set ?_ GE357.out) | exact HB.out)) hb); clear BK357; clear HB; have BK357 := n0_; have HB := n1_; clear n0_ n1_; (try clear hb); (try clear hb2); (try clear hk); (try clear hi)) | ((with_reducible refine gate_callee (f := 24) rfl ?_); refine goesL_ (some 35) rfl rfl Try.func24 (by kernel_rfl) rfl #[.string t362] rfl (by (try simp only [List.map_toArray, List.map_cons, List.map_nil]); first | done | rfl | (go_simp; done) | simp) ?_; (with_reducible refine (impl_ReadArticle.calls k t362 t363 t364 t365 t366 t367 t368 t369 t370 t371 t372 _ A8.out).mono ?_); rintro e w18 ⟨rfl, hb⟩; refine ⟨_, rfl, ?_⟩; have n0_ := Aside0.mk (blk_below (g := gb357) (o := .cells #[.string t348, .int .i64 t349, .int .i64 t350, .int .i64 t351, .int .i64 t352, .int .i64 t353, .int .i64 t354, .int .i64 t355, .int .i64 t356] 26 (0, 0)) (by (with_reducible repeat first | apply bN | apply bD | apply bA); exact BK357.out) hb); have n1_ := Aside0.mk (below_step (by repeat (first | (with_reducible first | exact HB.out | apply lA | apply lN | apply lD | refine below_set ?_ GE357.out) | exact HB.out)) hb); clear BK357; clear HB; have BK357 := n0_; have HB := n1_; clear n0_ n1_; (try clear hb); (try clear hb2); (try clear hk); (try clear hi)) | ((with_reducible refine gate_dst (N := 9) rfl ?_); refine box_event ?hg (N := 9) ?hd (cs := #[.string (⟨#[]⟩ : ByteArray), .int .i64 0, .int .i64 0, .int .i64 0, .int .i64 0, .int .i64 0, .int .i64 0, .int .i64 0, .int .i64 0]) (t := 26) ?hr ?_; (case hd => rfl); (case hg => rfl); (case hr => first | (go_simp; done) | (go_simp; rfl)); intro gb373 hg w19 hbox hb; have n0_ := Aside0.mk (blk_below (g := gb357) (o := .cells #[.string t348, .int .i64 t349, .int .i64 t350, .int .i64 t351, .int .i64 t352, .int .i64 t353, .int .i64 t354, .int .i64 t355, .int .i64 t356] 26 (0, 0)) (by (with_reducible repeat first | apply bN | apply bD | apply bA); exact BK357.out) hb); have n1_ := Aside0.mk (below_step (by repeat (first | (with_reducible first | exact HB.out | apply lA | apply lN | apply lD | refine below_set ?_ GE357.out) | exact HB.out)) hb); have n2_ := Aside0.mk (hbox); have n3_ := Aside0.mk ((by rw [hg]; exact (below_size (by repeat (first | (with_reducible first | exact HB.out | apply lA | apply lN | apply lD | refine below_set ?_ GE357.out) | exact HB.out))) : w.heap.size ≤ gb373)); have n4_ := Aside0.mk ((by rw [hg]; exact (below_size (by repeat (first | (with_reducible first | exact HB.out | apply lA | apply lN | apply lD | refine below_set ?_ GE357.out) | exact HB.out))) : w.heap.size ≤ gb373)); have n5_ := Aside0.mk ((by rw [hg]; exact Nat.ne_of_lt (blk_lt (g := gb357) (o := .cells #[.string t348, .int .i64 t349, .int .i64 t350, .int .i64 t351, .int .i64 t352, .int .i64 t353, .int .i64 t354, .int .i64 t355, .int .i64 t356] 26 (0, 0)) (by (with_reducible repeat first | apply bN | apply bD | apply bA); exact BK357.out)) : gb357 ≠ gb373)); have n6_ := Aside0.mk ((by rw [hg]; exact Nat.ne_of_gt (blk_lt (g := gb357) (o := .cells #[.string t348, .int .i64 t349, .int .i64 t350, .int .i64 t351, .int .i64 t352, .int .i64 t353, .int .i64 t354, .int .i64 t355, .int .i64 t356] 26 (0, 0)) (by (with_reducible repeat first | apply bN | apply bD | apply bA); exact BK357.out)) : gb373 ≠ gb357)); clear BK357; clear HB; have BK357 := n0_; have HB := n1_; have BK373 := n2_; have GW373 := n3_; have GE373 := n4_; have NB357_373 := n5_; have NB373_357 := n6_; clear n0_ n1_ n2_ n3_ n4_ n5_ n6_; clear hb hbox hg; have hnb20 := NB373_357.out; have hnc20 := NB357_373.out; have hcz21_0 : w19.cell? ⟨gb373, 0, none⟩ = some (.string (⟨#[]⟩ : ByteArray)) := (blk_cell BK373.out 0).trans rfl; have hcz21_1 : w19.cell? ⟨gb373, 1, none⟩ = some (.int .i64 0) := (blk_cell BK373.out 1).trans rfl; have hcz21_2 : w19.cell? ⟨gb373, 2, none⟩ = some (.int .i64 0) := (blk_cell BK373.out 2).trans rfl; have hcz21_3 : w19.cell? ⟨gb373, 3, none⟩ = some (.int .i64 0) := (blk_cell BK373.out 3).trans rfl; have hcz21_4 : w19.cell? ⟨gb373, 4, none⟩ = some (.int .i64 0) := (blk_cell BK373.out 4).trans rfl; have hcz21_5 : w19.cell? ⟨gb373, 5, none⟩ = some (.int .i64 0) := (blk_cell BK373.out 5).trans rfl; have hcz21_6 : w19.cell? ⟨gb373, 6, none⟩ = some (.int .i64 0) := (blk_cell BK373.out 6).trans rfl; have hcz21_7 : w19.cell? ⟨gb373, 7, none⟩ = some (.int .i64 0) := (blk_cell BK373.out 7).trans rfl; have hcz21_8 : w19.cell? ⟨gb373, 8, none⟩ = some (.int .i64 0) := (blk_cell BK373.out 8).trans rfl; have hfz21_0 := blk_frozen BK373.out 0; have hfz21_1 := blk_frozen BK373.out 1; have hfz21_2 := blk_frozen BK373.out 2; have hfz21_3 := blk_frozen BK373.out 3; have hfz21_4 := blk_frozen BK373.out 4; have hfz21_5 := blk_frozen BK373.out 5; have hfz21_6 := blk_frozen BK373.out 6; have hfz21_7 := blk_frozen BK373.out 7; have hfz21_8 := blk_frozen BK373.out 8) | ((with_reducible refine gate_callee (f := 25) rfl ?_); refine goesL_ (some 40) rfl rfl Try.func25 (by kernel_rfl) rfl #[.string t362] rfl (by (try simp only [List.map_toArray, List.map_cons, List.map_nil]); first | done | rfl | (go_simp; done) | simp) ?_; (with_reducible refine (spec_ReadArticle.calls k t362 t374 t375 t376 t377 t378 t379 t380 t381 t382 t383 _ A9.out).mono ?_); rintro e w22 ⟨rfl, hb⟩; refine ⟨_, rfl, ?_⟩; have n0_ := Aside0.mk (blk_below (g := gb357) (o := .cells #[.string t348, .int .i64 t349, .int .i64 t350, .int .i64 t351, .int .i64 t352, .int .i64 t353, .int .i64 t354, .int .i64 t355, .int .i64 t356] 26 (0, 0)) (by (with_reducible repeat first | apply bN | apply bD | apply bA); refine blk_far ?_ NB357_373.out _; (with_reducible repeat first | apply bN | apply bD | apply bA); refine blk_far ?_ NB357_373.out _; (with_reducible repeat first | apply bN | apply bD | apply bA); refine blk_far ?_ NB357_373.out _; (with_reducible repeat first | apply bN | apply bD | apply bA); refine blk_far ?_ NB357_373.out _; (with_reducible repeat first | apply bN | apply bD | apply bA); refine blk_far ?_ NB357_373.out _; (with_reducible repeat first | apply bN | apply bD | apply bA); refine blk_far ?_ NB357_373.out _; (with_reducible repeat first | apply bN | apply bD | apply bA); refine blk_far ?_ NB357_373.out _; (with_reducible repeat first | apply bN | apply bD | apply bA); refine blk_far ?_ NB357_373.out _; (with_reducible repeat first | apply bN | apply bD | apply bA); refine blk_far ?_ NB357_373.out _; (with_reducible repeat first | apply bN | apply bD | apply bA); exact BK357.out) hb); have n1_ := Aside0.mk (blk_below (g := gb373) (o := .cells #[.string t363, .int .i64 t364, .int .i64 t365, .int .i64 t366, .int .i64 t367, .int .i64 t368, .int .i64 t369, .int .i64 t370, .int .i64 t371] 26 (0, 0)) (by (with_reducible repeat first | apply bN | apply bD | apply bA); refine blk_put (cs := #[.string t363, .int .i64 t364, .int .i64 t365, .int .i64 t366, .int .i64 t367, .int .i64 t368, .int .i64 t369, .int .i64 t370, .int .i64 0]) ?_ 8 _ rfl; (with_reducible repeat first | apply bN | apply bD | apply bA); refine blk_put (cs := #[.string t363, .int .i64 t364, .int .i64 t365, .int .i64 t366, .int .i64 t367, .int .i64 t368, .int .i64 t369, .int .i64 0, .int .i64 0]) ?_ 7 _ rfl; (with_reducible repeat first | apply bN | apply bD | apply bA); refine blk_put (cs := #[.string t363, .int .i64 t364, .int .i64 t365, .int .i64 t366, .int .i64 t367, .int .i64 t368, .int .i64 0, .int .i64 0, .int .i64 0]) ?_ 6 _ rfl; (with_reducible repeat first | apply bN | apply bD | apply bA); refine blk_put (cs := #[.string t363, .int .i64 t364, .int .i64 t365, .int .i64 t366, .int .i64 t367, .int .i64 0, .int .i64 0, .int .i64 0, .int .i64 0]) ?_ 5 _ rfl; (with_reducible repeat first | apply bN | apply bD | apply bA); refine blk_put (cs := #[.string t363, .int .i64 t364, .int .i64 t365, .int .i64 t366, .int .i64 0, .int .i64 0, .int .i64 0, .int .i64 0, .int .i64 0]) ?_ 4 _ rfl; (with_reducible repeat first | apply bN | apply bD | apply bA); refine blk_put (cs := #[.string t363, .int .i64 t364, .int .i64 t365, .int .i64 0, .int .i64 0, .int .i64 0, .int .i64 0, .int .i64 0, .int .i64 0]) ?_ 3 _ rfl; (with_reducible repeat first | apply bN | apply bD | apply bA); refine blk_put (cs := #[.string t363, .int .i64 t364, .int .i64 0, .int .i64 0, .int .i64 0, .int .i64 0, .int .i64 0, .int .i64 0, .int .i64 0]) ?_ 2 _ rfl; (with_reducible repeat first | apply bN | apply bD | apply bA); refine blk_put (cs := #[.string t363, .int .i64 0, .int .i64 0, .int .i64 0, .int .i64 0, .int .i64 0, .int .i64 0, .int .i64 0, .int .i64 0]) ?_ 1 _ rfl; (with_reducible repeat first | apply bN | apply bD | apply bA); refine blk_put (cs := #[.string (⟨#[]⟩ : ByteArray), .int .i64 0, .int .i64 0, .int .i64 0, .int .i64 0, .int .i64 0, .int .i64 0, .int .i64 0, .int .i64 0]) ?_ 0 _ rfl; (with_reducible repeat first | apply bN | apply bD | apply bA); exact BK373.out) hb); have n2_ := Aside0.mk (below_step (by repeat (first | (with_reducible first | exact HB.out | apply lA | apply lN | apply lD | refine below_set ?_ GE357.out | refine below_set ?_ GE373.out) | exact HB.out)) hb); clear BK357; clear BK373; clear HB; have BK357 := n0_; have BK373 := n1_; have HB := n2_; clear n0_ n1_ n2_; (try clear hb); (try clear hb2); (try clear hk); (try clear hi)) | ((with_reducible refine gate_dst (N := 11) rfl ?_); refine box_event ?hg (N := 11) ?hd (cs := #[.string (⟨#[]⟩ : ByteArray), .int .i64 0, .int .i64 0, .int .i64 0, .int .i64 0, .int .i64 0, .int .i64 0, .int .i64 0, .int .i64 0]) (t := 26) ?hr ?_; (case hd => rfl); (case hg => rfl); (case hr => first | (go_simp; done) | (go_simp; rfl)); intro gb384 hg w23 hbox hb; have n0_ := Aside0.mk (blk_below (g := gb357) (o := .cells #[.string t348, .int .i64 t349, .int .i64 t350, .int .i64 t351, .int .i64 t352, .int .i64 t353, .int .i64 t354, .int .i64 t355, .int .i64 t356] 26 (0, 0)) (by (with_reducible repeat first | apply bN | apply bD | apply bA); exact BK357.out) hb); have n1_ := Aside0.mk (blk_below (g := gb373) (o := .cells #[.string t363, .int .i64 t364, .int .i64 t365, .int .i64 t366, .int .i64 t367, .int .i64 t368, .int .i64 t369, .int .i64 t370, .int .i64 t371] 26 (0, 0)) (by (with_reducible repeat first | apply bN | apply bD | apply bA); exact BK373.out) hb); have n2_ := Aside0.mk (below_step (by repeat (first | (with_reducible first | exact HB.out | apply lA | apply lN | apply lD | refine below_set ?_ GE357.out | refine below_set ?_ GE373.out) | exact HB.out)) hb); have n3_ := Aside0.mk (hbox); have n4_ := Aside0.mk ((by rw [hg]; exact (below_size (by repeat (first | (with_reducible first | exact HB.out | apply lA | apply lN | apply lD | refine below_set ?_ GE357.out | refine below_set ?_ GE373.out) | exact HB.out))) : w.heap.size ≤ gb384)); have n5_ := Aside0.mk ((by rw [hg]; exact (below_size (by repeat (first | (with_reducible first | exact HB.out | apply lA | apply lN | apply lD | refine below_set ?_ GE357.out | refine below_set ?_ GE373.out) | exact HB.out))) : w.heap.size ≤ gb384)); have n6_ := Aside0.mk ((by rw [hg]; exact Nat.ne_of_lt (blk_lt (g := gb357) (o := .cells #[.string t348, .int .i64 t349, .int .i64 t350, .int .i64 t351, .int .i64 t352, .int .i64 t353, .int .i64 t354, .int .i64 t355, .int .i64 t356] 26 (0, 0)) (by (with_reducible repeat first | apply bN | apply bD | apply bA); exact BK357.out)) : gb357 ≠ gb384)); have n7_ := Aside0.mk ((by rw [hg]; exact Nat.ne_of_gt (blk_lt (g := gb357) (o := .cells #[.string t348, .int .i64 t349, .int .i64 t350, .int .i64 t351, .int .i64 t352, .int .i64 t353, .int .i64 t354, .int .i64 t355, .int .i64 t356] 26 (0, 0)) (by (with_reducible repeat first | apply bN | apply bD | apply bA); exact BK357.out)) : gb384 ≠ gb357)); have n8_ := Aside0.mk ((by rw [hg]; exact Nat.ne_of_lt (blk_lt (g := gb373) (o := .cells #[.string t363, .int .i64 t364, .int .i64 t365, .int .i64 t366, .int .i64 t367, .int .i64 t368, .int .i64 t369, .int .i64 t370, .int .i64 t371] 26 (0, 0)) (by (with_reducible repeat first | apply bN | apply bD | apply bA); exact BK373.out)) : gb373 ≠ gb384)); have n9_ := Aside0.mk ((by rw [hg]; exact Nat.ne_of_gt (blk_lt (g := gb373) (o := .cells #[.string t363, .int .i64 t364, .int .i64 t365, .int .i64 t366, .int .i64 t367, .int .i64 t368, .int .i64 t369, .int .i64 t370, .int .i64 t371] 26 (0, 0)) (by (with_reducible repeat first | apply bN | apply bD | apply bA); exact BK373.out)) : gb384 ≠ gb373)); clear BK357; clear BK373; clear HB; have BK357 := n0_; have BK373 := n1_; have HB := n2_; have BK384 := n3_; have GW384 := n4_; have GE384 := n5_; have NB357_384 := n6_; have NB384_357 := n7_; have NB373_384 := n8_; have NB384_373 := n9_; clear n0_ n1_ n2_ n3_ n4_ n5_ n6_ n7_ n8_ n9_; clear hb hbox hg; have hnb24 := NB384_357.out; have hnc24 := NB357_384.out; have hnb25 := NB384_373.out; have hnc25 := NB373_384.out; have hcz26_0 : w23.cell? ⟨gb384, 0, none⟩ = some (.string (⟨#[]⟩ : ByteArray)) := (blk_cell BK384.out 0).trans rfl; have hcz26_1 : w23.cell? ⟨gb384, 1, none⟩ = some (.int .i64 0) := (blk_cell BK384.out 1).trans rfl; have hcz26_2 : w23.cell? ⟨gb384, 2, none⟩ = some (.int .i64 0) := (blk_cell BK384.out 2).trans rfl; have hcz26_3 : w23.cell? ⟨gb384, 3, none⟩ = some (.int .i64 0) := (blk_cell BK384.out 3).trans rfl; have hcz26_4 : w23.cell? ⟨gb384, 4, none⟩ = some (.int .i64 0) := (blk_cell BK384.out 4).trans rfl; have hcz26_5 : w23.cell? ⟨gb384, 5, none⟩ = some (.int .i64 0) := (blk_cell BK384.out 5).trans rfl; have hcz26_6 : w23.cell? ⟨gb384, 6, none⟩ = some (.int .i64 0) := (blk_cell BK384.out 6).trans rfl; have hcz26_7 : w23.cell? ⟨gb384, 7, none⟩ = some (.int .i64 0) := (blk_cell BK384.out 7).trans rfl; have hcz26_8 : w23.cell? ⟨gb384, 8, none⟩ = some (.int .i64 0) := (blk_cell BK384.out 8).trans rfl; have hfz26_0 := blk_frozen BK384.out 0; have hfz26_1 := blk_frozen BK384.out 1; have hfz26_2 := blk_frozen BK384.out 2; have hfz26_3 := blk_frozen BK384.out 3; have hfz26_4 := blk_frozen BK384.out 4; have hfz26_5 := blk_frozen BK384.out 5; have hfz26_6 := blk_frozen BK384.out 6; have hfz26_7 := blk_frozen BK384.out 7; have hfz26_8 := blk_frozen BK384.out 8))
  (try simp only [Act.put, sT, s0, sS])
  go_cut [68] (fun v68 wc => ∃ (kq : Nat) (x68_9 : Bool), v68 = .bool x68_9 ∧ Aside0 (laws_FnArticleTexts.j0 kq t358 t359 t362 t372 x68_9 t348 t349 t350 t351 t352 t353 t354 t355 t356 t363 t364 t365 t366 t367 t368 t369 t370 t371 = some r) ∧ Aside0 (kq ≤ k) ∧ Aside0 (wc.heap[gb357]? = some (.cells #[.string t348, .int .i64 t349, .int .i64 t350, .int .i64 t351, .int .i64 t352, .int .i64 t353, .int .i64 t354, .int .i64 t355, .int .i64 t356] 26 (0, 0))) ∧ Aside0 (wc.heap[gb373]? = some (.cells #[.string t363, .int .i64 t364, .int .i64 t365, .int .i64 t366, .int .i64 t367, .int .i64 t368, .int .i64 t369, .int .i64 t370, .int .i64 t371] 26 (0, 0))) ∧ Aside0 (wc.heap[gb384]? = some (.cells #[.string t374, .int .i64 t375, .int .i64 t376, .int .i64 t377, .int .i64 t378, .int .i64 t379, .int .i64 t380, .int .i64 t381, .int .i64 t382] 26 (0, 0))) ∧ Aside0 (Below w.heap.size w wc))
  case first =>
   have H := HC10.out
   clear HC10
   by_cases c27 : t359 = t361
   ·
    rw [if_pos c27] at H
    have c27b0 : (t359 == t361) = true := beq_iff_eq.mpr c27
    have c27b1 : (t359 != t361) = false := bne_eq_false_iff_eq.mpr c27
    clear c27
    (first | rw [c27b0] | (simp only [i64_w, i32_w]; rw [c27b0]) | skip)
    by_cases c28 : t358.toList = t360.toList
    ·
     rw [if_pos c28] at H
     have c28b0 : (t358.toList == t360.toList) = true := beq_iff_eq.mpr c28
     have c28b1 : (t358.toList != t360.toList) = false := bne_eq_false_iff_eq.mpr c28
     clear c28
     by_cases c29 : t372 = t383
     ·
      rw [if_pos c29] at H
      have c29b0 : (t372 == t383) = true := beq_iff_eq.mpr c29
      have c29b1 : (t372 != t383) = false := bne_eq_false_iff_eq.mpr c29
      clear c29
      by_cases c30 : ((t363.toList == t374.toList && (t364 == t375 && (t365 == t376 && (t366 == t377 && (t367 == t378 && (t368 == t379 && (t369 == t380 && (t370 == t381 && (t371 == t382))))))))) = true)
      ·
       rw [if_pos c30] at H
       have c30b0 : (t363.toList == t374.toList && (t364 == t375 && (t365 == t376 && (t366 == t377 && (t367 == t378 && (t368 == t379 && (t369 == t380 && (t370 == t381 && (t371 == t382))))))))) = true := c30
       (try (have c30b1 : decide (t363.toList = t374.toList && (t364 == t375 && (t365 == t376 && (t366 == t377 && (t367 == t378 && (t368 == t379 && (t369 == t380 && (t370 == t381 && (t371 == t382))))))))) = true := by simpa using c30))
       (try (have c30b2 : (t363.toList == t374.toList && (t364 == t375 && (t365 == t376 && (t366 == t377 && (t367 == t378 && (t368 == t379 && (t369 == t380 && (t370 == t381 && (t371 == t382))))))))) = true := by simpa using c30))
       clear c30
       replace H := Option.bind_eq_some_iff.mp H
       obtain ⟨t385, A310, H⟩ := H
       replace H : (laws_FnArticleTexts.j0 k t358 t359 t362 t372 (t385 != (t361 == 0)) t348 t349 t350 t351 t352 t353 t354 t355 t356 t363 t364 t365 t366 t367 t368 t369 t370 t371) = some r := H
       have A31 := Aside0.mk A310
       clear A310
       have H' := Aside0.mk H
       clear H
       have hnb32 := NB373_357.out
       have hnc32 := NB357_373.out
       have hnb33 := NB373_384.out
       have hnc33 := NB384_373.out
       have hcz34_0 : w23.cell? ⟨gb373, 0, none⟩ = some (.string t363) := (blk_cell BK373.out 0).trans rfl
       have hcz34_1 : w23.cell? ⟨gb373, 1, none⟩ = some (.int .i64 t364) := (blk_cell BK373.out 1).trans rfl
       have hcz34_2 : w23.cell? ⟨gb373, 2, none⟩ = some (.int .i64 t365) := (blk_cell BK373.out 2).trans rfl
       have hcz34_3 : w23.cell? ⟨gb373, 3, none⟩ = some (.int .i64 t366) := (blk_cell BK373.out 3).trans rfl
       have hcz34_4 : w23.cell? ⟨gb373, 4, none⟩ = some (.int .i64 t367) := (blk_cell BK373.out 4).trans rfl
       have hcz34_5 : w23.cell? ⟨gb373, 5, none⟩ = some (.int .i64 t368) := (blk_cell BK373.out 5).trans rfl
       have hcz34_6 : w23.cell? ⟨gb373, 6, none⟩ = some (.int .i64 t369) := (blk_cell BK373.out 6).trans rfl
       have hcz34_7 : w23.cell? ⟨gb373, 7, none⟩ = some (.int .i64 t370) := (blk_cell BK373.out 7).trans rfl
       have hcz34_8 : w23.cell? ⟨gb373, 8, none⟩ = some (.int .i64 t371) := (blk_cell BK373.out 8).trans rfl
       have hfz34_0 := blk_frozen BK373.out 0
       have hfz34_1 := blk_frozen BK373.out 1
       have hfz34_2 := blk_frozen BK373.out 2
       have hfz34_3 := blk_frozen BK373.out 3
       have hfz34_4 := blk_frozen BK373.out 4
       have hfz34_5 := blk_frozen BK373.out 5
       have hfz34_6 := blk_frozen BK373.out 6
       have hfz34_7 := blk_frozen BK373.out 7
       have hfz34_8 := blk_frozen BK373.out 8
       have hnb35 := NB384_357.out
       have hnc35 := NB357_384.out
       have hcz36_0 : w23.cell? ⟨gb384, 0, none⟩ = some (.string (⟨#[]⟩ : ByteArray)) := (blk_cell BK384.out 0).trans rfl
       have hcz36_1 : w23.cell? ⟨gb384, 1, none⟩ = some (.int .i64 0) := (blk_cell BK384.out 1).trans rfl
       have hcz36_2 : w23.cell? ⟨gb384, 2, none⟩ = some (.int .i64 0) := (blk_cell BK384.out 2).trans rfl
       have hcz36_3 : w23.cell? ⟨gb384, 3, none⟩ = some (.int .i64 0) := (blk_cell BK384.out 3).trans rfl
       have hcz36_4 : w23.cell? ⟨gb384, 4, none⟩ = some (.int .i64 0) := (blk_cell BK384.out 4).trans rfl
       have hcz36_5 : w23.cell? ⟨gb384, 5, none⟩ = some (.int .i64 0) := (blk_cell BK384.out 5).trans rfl
       have hcz36_6 : w23.cell? ⟨gb384, 6, none⟩ = some (.int .i64 0) := (blk_cell BK384.out 6).trans rfl
       have hcz36_7 : w23.cell? ⟨gb384, 7, none⟩ = some (.int .i64 0) := (blk_cell BK384.out 7).trans rfl
       have hcz36_8 : w23.cell? ⟨gb384, 8, none⟩ = some (.int .i64 0) := (blk_cell BK384.out 8).trans rfl
       have hfz36_0 := blk_frozen BK384.out 0
       have hfz36_1 := blk_frozen BK384.out 1
       have hfz36_2 := blk_frozen BK384.out 2
       have hfz36_3 := blk_frozen BK384.out 3
       have hfz36_4 := blk_frozen BK384.out 4
       have hfz36_5 := blk_frozen BK384.out 5
       have hfz36_6 := blk_frozen BK384.out 6
       have hfz36_7 := blk_frozen BK384.out 7
       have hfz36_8 := blk_frozen BK384.out 8
       have hcz37_0 : w23.cell? ⟨gb357, 0, none⟩ = some (.string t348) := (blk_cell BK357.out 0).trans rfl
       have hcz37_1 : w23.cell? ⟨gb357, 1, none⟩ = some (.int .i64 t349) := (blk_cell BK357.out 1).trans rfl
       have hcz37_2 : w23.cell? ⟨gb357, 2, none⟩ = some (.int .i64 t350) := (blk_cell BK357.out 2).trans rfl
       have hcz37_3 : w23.cell? ⟨gb357, 3, none⟩ = some (.int .i64 t351) := (blk_cell BK357.out 3).trans rfl
       have hcz37_4 : w23.cell? ⟨gb357, 4, none⟩ = some (.int .i64 t352) := (blk_cell BK357.out 4).trans rfl
       have hcz37_5 : w23.cell? ⟨gb357, 5, none⟩ = some (.int .i64 t353) := (blk_cell BK357.out 5).trans rfl
       have hcz37_6 : w23.cell? ⟨gb357, 6, none⟩ = some (.int .i64 t354) := (blk_cell BK357.out 6).trans rfl
       have hcz37_7 : w23.cell? ⟨gb357, 7, none⟩ = some (.int .i64 t355) := (blk_cell BK357.out 7).trans rfl
       have hcz37_8 : w23.cell? ⟨gb357, 8, none⟩ = some (.int .i64 t356) := (blk_cell BK357.out 8).trans rfl
       have hfz37_0 := blk_frozen BK357.out 0
       have hfz37_1 := blk_frozen BK357.out 1
       have hfz37_2 := blk_frozen BK357.out 2
       have hfz37_3 := blk_frozen BK357.out 3
       have hfz37_4 := blk_frozen BK357.out 4
       have hfz37_5 := blk_frozen BK357.out 5
       have hfz37_6 := blk_frozen BK357.out 6
       have hfz37_7 := blk_frozen BK357.out 7
       have hfz37_8 := blk_frozen BK357.out 8
       go_wp2_with (first | (go_at_call 18; (with_reducible refine (impl_IsArticle.calls k t348 t349 t350 t351 t352 t353 t354 t355 t356 t385 _ A31.out).mono ?_); rintro e w38 ⟨rfl, hb⟩; have n0_ := Aside0.mk (blk_below (g := gb357) (o := .cells #[.string t348, .int .i64 t349, .int .i64 t350, .int .i64 t351, .int .i64 t352, .int .i64 t353, .int .i64 t354, .int .i64 t355, .int .i64 t356] 26 (0, 0)) (by (with_reducible repeat first | apply bN | apply bD | apply bA); refine blk_far ?_ NB357_384.out _; (with_reducible repeat first | apply bN | apply bD | apply bA); refine blk_far ?_ NB357_384.out _; (with_reducible repeat first | apply bN | apply bD | apply bA); refine blk_far ?_ NB357_384.out _; (with_reducible repeat first | apply bN | apply bD | apply bA); refine blk_far ?_ NB357_384.out _; (with_reducible repeat first | apply bN | apply bD | apply bA); refine blk_far ?_ NB357_384.out _; (with_reducible repeat first | apply bN | apply bD | apply bA); refine blk_far ?_ NB357_384.out _; (with_reducible repeat first | apply bN | apply bD | apply bA); refine blk_far ?_ NB357_384.out _; (with_reducible repeat first | apply bN | apply bD | apply bA); refine blk_far ?_ NB357_384.out _; (with_reducible repeat first | apply bN | apply bD | apply bA); refine blk_far ?_ NB357_384.out _; (with_reducible repeat first | apply bN | apply bD | apply bA); exact BK357.out) hb); have n1_ := Aside0.mk (blk_below (g := gb373) (o := .cells #[.string t363, .int .i64 t364, .int .i64 t365, .int .i64 t366, .int .i64 t367, .int .i64 t368, .int .i64 t369, .int .i64 t370, .int .i64 t371] 26 (0, 0)) (by (with_reducible repeat first | apply bN | apply bD | apply bA); refine blk_far ?_ NB373_384.out _; (with_reducible repeat first | apply bN | apply bD | apply bA); refine blk_far ?_ NB373_384.out _; (with_reducible repeat first | apply bN | apply bD | apply bA); refine blk_far ?_ NB373_384.out _; (with_reducible repeat first | apply bN | apply bD | apply bA); refine blk_far ?_ NB373_384.out _; (with_reducible repeat first | apply bN | apply bD | apply bA); refine blk_far ?_ NB373_384.out _; (with_reducible repeat first | apply bN | apply bD | apply bA); refine blk_far ?_ NB373_384.out _; (with_reducible repeat first | apply bN | apply bD | apply bA); refine blk_far ?_ NB373_384.out _; (with_reducible repeat first | apply bN | apply bD | apply bA); refine blk_far ?_ NB373_384.out _; (with_reducible repeat first | apply bN | apply bD | apply bA); refine blk_far ?_ NB373_384.out _; (with_reducible repeat first | apply bN | apply bD | apply bA); exact BK373.out) hb); have n2_ := Aside0.mk (blk_below (g := gb384) (o := .cells #[.string t374, .int .i64 t375, .int .i64 t376, .int .i64 t377, .int .i64 t378, .int .i64 t379, .int .i64 t380, .int .i64 t381, .int .i64 t382] 26 (0, 0)) (by (with_reducible repeat first | apply bN | apply bD | apply bA); refine blk_put (cs := #[.string t374, .int .i64 t375, .int .i64 t376, .int .i64 t377, .int .i64 t378, .int .i64 t379, .int .i64 t380, .int .i64 t381, .int .i64 0]) ?_ 8 _ rfl; (with_reducible repeat first | apply bN | apply bD | apply bA); refine blk_put (cs := #[.string t374, .int .i64 t375, .int .i64 t376, .int .i64 t377, .int .i64 t378, .int .i64 t379, .int .i64 t380, .int .i64 0, .int .i64 0]) ?_ 7 _ rfl; (with_reducible repeat first | apply bN | apply bD | apply bA); refine blk_put (cs := #[.string t374, .int .i64 t375, .int .i64 t376, .int .i64 t377, .int .i64 t378, .int .i64 t379, .int .i64 0, .int .i64 0, .int .i64 0]) ?_ 6 _ rfl; (with_reducible repeat first | apply bN | apply bD | apply bA); refine blk_put (cs := #[.string t374, .int .i64 t375, .int .i64 t376, .int .i64 t377, .int .i64 t378, .int .i64 0, .int .i64 0, .int .i64 0, .int .i64 0]) ?_ 5 _ rfl; (with_reducible repeat first | apply bN | apply bD | apply bA); refine blk_put (cs := #[.string t374, .int .i64 t375, .int .i64 t376, .int .i64 t377, .int .i64 0, .int .i64 0, .int .i64 0, .int .i64 0, .int .i64 0]) ?_ 4 _ rfl; (with_reducible repeat first | apply bN | apply bD | apply bA); refine blk_put (cs := #[.string t374, .int .i64 t375, .int .i64 t376, .int .i64 0, .int .i64 0, .int .i64 0, .int .i64 0, .int .i64 0, .int .i64 0]) ?_ 3 _ rfl; (with_reducible repeat first | apply bN | apply bD | apply bA); refine blk_put (cs := #[.string t374, .int .i64 t375, .int .i64 0, .int .i64 0, .int .i64 0, .int .i64 0, .int .i64 0, .int .i64 0, .int .i64 0]) ?_ 2 _ rfl; (with_reducible repeat first | apply bN | apply bD | apply bA); refine blk_put (cs := #[.string t374, .int .i64 0, .int .i64 0, .int .i64 0, .int .i64 0, .int .i64 0, .int .i64 0, .int .i64 0, .int .i64 0]) ?_ 1 _ rfl; (with_reducible repeat first | apply bN | apply bD | apply bA); refine blk_put (cs := #[.string (⟨#[]⟩ : ByteArray), .int .i64 0, .int .i64 0, .int .i64 0, .int .i64 0, .int .i64 0, .int .i64 0, .int .i64 0, .int .i64 0]) ?_ 0 _ rfl; (with_reducible repeat first | apply bN | apply bD | apply bA); exact BK384.out) hb); have n3_ := Aside0.mk (below_step (by repeat (first | (with_reducible first | exact HB.out | apply lA | apply lN | apply lD | refine below_set ?_ GE357.out | refine below_set ?_ GE373.out | refine below_set ?_ GE384.out) | exact HB.out)) hb); clear BK357; clear BK373; clear BK384; clear HB; have BK357 := n0_; have BK373 := n1_; have BK384 := n2_; have HB := n3_; clear n0_ n1_ n2_ n3_; (try clear hb); (try clear hb2); (try clear hk); (try clear hi)))
       go_meet
       case rel => exact ⟨_, ((t385 != (t361 == 0))), (by first | rfl | (simp; done) | (simp [*]; done)), H', ⟨by first | omega | exact Nat.le_refl _⟩, ⟨by (with_reducible repeat first | apply bN | apply bD | apply bA); exact BK357.out⟩, ⟨by (with_reducible repeat first | apply bN | apply bD | apply bA); exact BK373.out⟩, ⟨by (with_reducible repeat first | apply bN | apply bD | apply bA); exact BK384.out⟩, ⟨by repeat (first | (with_reducible first | exact HB.out | apply lA | apply lN | apply lD | refine below_set ?_ GE357.out | refine below_set ?_ GE373.out | refine below_set ?_ GE384.out) | exact HB.out)⟩⟩
      ·
       rw [if_neg c30] at H
       have c30b0 : (t363.toList == t374.toList && (t364 == t375 && (t365 == t376 && (t366 == t377 && (t367 == t378 && (t368 == t379 && (t369 == t380 && (t370 == t381 && (t371 == t382))))))))) = false := by simpa using c30
       (try (have c30b1 : decide (t363.toList = t374.toList && (t364 == t375 && (t365 == t376 && (t366 == t377 && (t367 == t378 && (t368 == t379 && (t369 == t380 && (t370 == t381 && (t371 == t382))))))))) = false := by simpa using c30))
       (try (have c30b2 : (t363.toList == t374.toList && (t364 == t375 && (t365 == t376 && (t366 == t377 && (t367 == t378 && (t368 == t379 && (t369 == t380 && (t370 == t381 && (t371 == t382))))))))) = false := by simpa using c30))
       (try (have c30b3 : ¬ (t363.toList = t374.toList && (t364 == t375 && (t365 == t376 && (t366 == t377 && (t367 == t378 && (t368 == t379 && (t369 == t380 && (t370 == t381 && (t371 == t382))))))))) := by simpa using c30))
       clear c30
       have H' := Aside0.mk H
       clear H
       have hnb39 := NB373_357.out
       have hnc39 := NB357_373.out
       have hnb40 := NB373_384.out
       have hnc40 := NB384_373.out
       have hcz41_0 : w23.cell? ⟨gb373, 0, none⟩ = some (.string t363) := (blk_cell BK373.out 0).trans rfl
       have hcz41_1 : w23.cell? ⟨gb373, 1, none⟩ = some (.int .i64 t364) := (blk_cell BK373.out 1).trans rfl
       have hcz41_2 : w23.cell? ⟨gb373, 2, none⟩ = some (.int .i64 t365) := (blk_cell BK373.out 2).trans rfl
       have hcz41_3 : w23.cell? ⟨gb373, 3, none⟩ = some (.int .i64 t366) := (blk_cell BK373.out 3).trans rfl
       have hcz41_4 : w23.cell? ⟨gb373, 4, none⟩ = some (.int .i64 t367) := (blk_cell BK373.out 4).trans rfl
       have hcz41_5 : w23.cell? ⟨gb373, 5, none⟩ = some (.int .i64 t368) := (blk_cell BK373.out 5).trans rfl
       have hcz41_6 : w23.cell? ⟨gb373, 6, none⟩ = some (.int .i64 t369) := (blk_cell BK373.out 6).trans rfl
       have hcz41_7 : w23.cell? ⟨gb373, 7, none⟩ = some (.int .i64 t370) := (blk_cell BK373.out 7).trans rfl
       have hcz41_8 : w23.cell? ⟨gb373, 8, none⟩ = some (.int .i64 t371) := (blk_cell BK373.out 8).trans rfl
       have hfz41_0 := blk_frozen BK373.out 0
       have hfz41_1 := blk_frozen BK373.out 1
       have hfz41_2 := blk_frozen BK373.out 2
       have hfz41_3 := blk_frozen BK373.out 3
       have hfz41_4 := blk_frozen BK373.out 4
       have hfz41_5 := blk_frozen BK373.out 5
       have hfz41_6 := blk_frozen BK373.out 6
       have hfz41_7 := blk_frozen BK373.out 7
       have hfz41_8 := blk_frozen BK373.out 8
       have hnb42 := NB384_357.out
       have hnc42 := NB357_384.out
       have hcz43_0 : w23.cell? ⟨gb384, 0, none⟩ = some (.string (⟨#[]⟩ : ByteArray)) := (blk_cell BK384.out 0).trans rfl
       have hcz43_1 : w23.cell? ⟨gb384, 1, none⟩ = some (.int .i64 0) := (blk_cell BK384.out 1).trans rfl
       have hcz43_2 : w23.cell? ⟨gb384, 2, none⟩ = some (.int .i64 0) := (blk_cell BK384.out 2).trans rfl
       have hcz43_3 : w23.cell? ⟨gb384, 3, none⟩ = some (.int .i64 0) := (blk_cell BK384.out 3).trans rfl
       have hcz43_4 : w23.cell? ⟨gb384, 4, none⟩ = some (.int .i64 0) := (blk_cell BK384.out 4).trans rfl
       have hcz43_5 : w23.cell? ⟨gb384, 5, none⟩ = some (.int .i64 0) := (blk_cell BK384.out 5).trans rfl
       have hcz43_6 : w23.cell? ⟨gb384, 6, none⟩ = some (.int .i64 0) := (blk_cell BK384.out 6).trans rfl
       have hcz43_7 : w23.cell? ⟨gb384, 7, none⟩ = some (.int .i64 0) := (blk_cell BK384.out 7).trans rfl
       have hcz43_8 : w23.cell? ⟨gb384, 8, none⟩ = some (.int .i64 0) := (blk_cell BK384.out 8).trans rfl
       have hfz43_0 := blk_frozen BK384.out 0
       have hfz43_1 := blk_frozen BK384.out 1
       have hfz43_2 := blk_frozen BK384.out 2
       have hfz43_3 := blk_frozen BK384.out 3
       have hfz43_4 := blk_frozen BK384.out 4
       have hfz43_5 := blk_frozen BK384.out 5
       have hfz43_6 := blk_frozen BK384.out 6
       have hfz43_7 := blk_frozen BK384.out 7
       have hfz43_8 := blk_frozen BK384.out 8
       go_wp2
       go_meet
       case rel => exact ⟨_, (true), (by first | rfl | (simp; done) | (simp [*]; done)), H', ⟨by first | omega | exact Nat.le_refl _⟩, ⟨by (with_reducible repeat first | apply bN | apply bD | apply bA); refine blk_far ?_ NB357_384.out _; (with_reducible repeat first | apply bN | apply bD | apply bA); refine blk_far ?_ NB357_384.out _; (with_reducible repeat first | apply bN | apply bD | apply bA); refine blk_far ?_ NB357_384.out _; (with_reducible repeat first | apply bN | apply bD | apply bA); refine blk_far ?_ NB357_384.out _; (with_reducible repeat first | apply bN | apply bD | apply bA); refine blk_far ?_ NB357_384.out _; (with_reducible repeat first | apply bN | apply bD | apply bA); refine blk_far ?_ NB357_384.out _; (with_reducible repeat first | apply bN | apply bD | apply bA); refine blk_far ?_ NB357_384.out _; (with_reducible repeat first | apply bN | apply bD | apply bA); refine blk_far ?_ NB357_384.out _; (with_reducible repeat first | apply bN | apply bD | apply bA); refine blk_far ?_ NB357_384.out _; (with_reducible repeat first | apply bN | apply bD | apply bA); exact BK357.out⟩, ⟨by (with_reducible repeat first | apply bN | apply bD | apply bA); refine blk_far ?_ NB373_384.out _; (with_reducible repeat first | apply bN | apply bD | apply bA); refine blk_far ?_ NB373_384.out _; (with_reducible repeat first | apply bN | apply bD | apply bA); refine blk_far ?_ NB373_384.out _; (with_reducible repeat first | apply bN | apply bD | apply bA); refine blk_far ?_ NB373_384.out _; (with_reducible repeat first | apply bN | apply bD | apply bA); refine blk_far ?_ NB373_384.out _; (with_reducible repeat first | apply bN | apply bD | apply bA); refine blk_far ?_ NB373_384.out _; (with_reducible repeat first | apply bN | apply bD | apply bA); refine blk_far ?_ NB373_384.out _; (with_reducible repeat first | apply bN | apply bD | apply bA); refine blk_far ?_ NB373_384.out _; (with_reducible repeat first | apply bN | apply bD | apply bA); refine blk_far ?_ NB373_384.out _; (with_reducible repeat first | apply bN | apply bD | apply bA); exact BK373.out⟩, ⟨by (with_reducible repeat first | apply bN | apply bD | apply bA); refine blk_put (cs := #[.string t374, .int .i64 t375, .int .i64 t376, .int .i64 t377, .int .i64 t378, .int .i64 t379, .int .i64 t380, .int .i64 t381, .int .i64 0]) ?_ 8 _ rfl; (with_reducible repeat first | apply bN | apply bD | apply bA); refine blk_put (cs := #[.string t374, .int .i64 t375, .int .i64 t376, .int .i64 t377, .int .i64 t378, .int .i64 t379, .int .i64 t380, .int .i64 0, .int .i64 0]) ?_ 7 _ rfl; (with_reducible repeat first | apply bN | apply bD | apply bA); refine blk_put (cs := #[.string t374, .int .i64 t375, .int .i64 t376, .int .i64 t377, .int .i64 t378, .int .i64 t379, .int .i64 0, .int .i64 0, .int .i64 0]) ?_ 6 _ rfl; (with_reducible repeat first | apply bN | apply bD | apply bA); refine blk_put (cs := #[.string t374, .int .i64 t375, .int .i64 t376, .int .i64 t377, .int .i64 t378, .int .i64 0, .int .i64 0, .int .i64 0, .int .i64 0]) ?_ 5 _ rfl; (with_reducible repeat first | apply bN | apply bD | apply bA); refine blk_put (cs := #[.string t374, .int .i64 t375, .int .i64 t376, .int .i64 t377, .int .i64 0, .int .i64 0, .int .i64 0, .int .i64 0, .int .i64 0]) ?_ 4 _ rfl; (with_reducible repeat first | apply bN | apply bD | apply bA); refine blk_put (cs := #[.string t374, .int .i64 t375, .int .i64 t376, .int .i64 0, .int .i64 0, .int .i64 0, .int .i64 0, .int .i64 0, .int .i64 0]) ?_ 3 _ rfl; (with_reducible repeat first | apply bN | apply bD | apply bA); refine blk_put (cs := #[.string t374, .int .i64 t375, .int .i64 0, .int .i64 0, .int .i64 0, .int .i64 0, .int .i64 0, .int .i64 0, .int .i64 0]) ?_ 2 _ rfl; (with_reducible repeat first | apply bN | apply bD | apply bA); refine blk_put (cs := #[.string t374, .int .i64 0, .int .i64 0, .int .i64 0, .int .i64 0, .int .i64 0, .int .i64 0, .int .i64 0, .int .i64 0]) ?_ 1 _ rfl; (with_reducible repeat first | apply bN | apply bD | apply bA); refine blk_put (cs := #[.string (⟨#[]⟩ : ByteArray), .int .i64 0, .int .i64 0, .int .i64 0, .int .i64 0, .int .i64 0, .int .i64 0, .int .i64 0, .int .i64 0]) ?_ 0 _ rfl; (with_reducible repeat first | apply bN | apply bD | apply bA); exact BK384.out⟩, ⟨by repeat (first | (with_reducible first | exact HB.out | apply lA | apply lN | apply lD | refine below_set ?_ GE357.out | refine below_set ?_ GE373.out | refine below_set ?_ GE384.out) | exact HB.out)⟩⟩
     ·
      rw [if_neg c29] at H
      have c29b0 : (t372 == t383) = false := beq_eq_false_iff_ne.mpr c29
      have c29b1 : (t372 != t383) = true := bne_iff_ne.mpr c29
      first | exact absurd (H.trans (congrArg some hr_.out)) (j0T _ _ _ _ _ _ _ _ _ _ _ _ _ _ _ _ _ _ _ _ _ _ _) | exact absurd (H.trans (congrArg some hr_.out)) (j1T _ _ _ _ _ _ _ _ _ _ _ _)
    ·
     rw [if_neg c28] at H
     have c28b0 : (t358.toList == t360.toList) = false := beq_eq_false_iff_ne.mpr c28
     have c28b1 : (t358.toList != t360.toList) = true := bne_iff_ne.mpr c28
     first | exact absurd (H.trans (congrArg some hr_.out)) (j0T _ _ _ _ _ _ _ _ _ _ _ _ _ _ _ _ _ _ _ _ _ _ _) | exact absurd (H.trans (congrArg some hr_.out)) (j1T _ _ _ _ _ _ _ _ _ _ _ _)
   ·
    rw [if_neg c27] at H
    have c27b0 : (t359 == t361) = false := beq_eq_false_iff_ne.mpr c27
    have c27b1 : (t359 != t361) = true := bne_iff_ne.mpr c27
    (first | rw [c27b0] | (simp only [i64_w, i32_w]; rw [c27b0]) | skip)
    first | exact absurd (H.trans (congrArg some hr_.out)) (j0T _ _ _ _ _ _ _ _ _ _ _ _ _ _ _ _ _ _ _ _ _ _ _) | exact absurd (H.trans (congrArg some hr_.out)) (j1T _ _ _ _ _ _ _ _ _ _ _ _)
  case rest =>
   clear HC10
   try clear c1
   try clear c2
   try clear p2
   try clear c3
   try clear c4
   try clear c19
   try clear c20
   try clear c21
   try clear c22
   try clear c23
   try clear c24
   try clear c25
   try clear c27
   try clear c27b0
   try clear c27b1
   try clear c28
   try clear c28b0
   try clear c28b1
   try clear c29
   try clear c29b0
   try clear c29b1
   try clear c30
   try clear c30b0
   try clear c30b1
   try clear c30b2
   try clear c32
   try clear c33
   try clear c35
   try clear c39
   try clear c40
   try clear c42
   try clear hcz13_0
   try clear hcz13_1
   try clear hcz13_2
   try clear hcz13_3
   try clear hcz13_4
   try clear hcz13_5
   try clear hcz13_6
   try clear hcz13_7
   try clear hcz13_8
   try clear hcz15_0
   try clear hcz15_1
   try clear hcz15_2
   try clear hcz15_3
   try clear hcz15_4
   try clear hcz15_5
   try clear hcz15_6
   try clear hcz15_7
   try clear hcz15_8
   try clear hcz21_0
   try clear hcz21_1
   try clear hcz21_2
   try clear hcz21_3
   try clear hcz21_4
   try clear hcz21_5
   try clear hcz21_6
   try clear hcz21_7
   try clear hcz21_8
   try clear hcz26_0
   try clear hcz26_1
   try clear hcz26_2
   try clear hcz26_3
   try clear hcz26_4
   try clear hcz26_5
   try clear hcz26_6
   try clear hcz26_7
   try clear hcz26_8
   try clear hcz34_0
   try clear hcz34_1
   try clear hcz34_2
   try clear hcz34_3
   try clear hcz34_4
   try clear hcz34_5
   try clear hcz34_6
   try clear hcz34_7
   try clear hcz34_8
   try clear hcz36_0
   try clear hcz36_1
   try clear hcz36_2
   try clear hcz36_3
   try clear hcz36_4
   try clear hcz36_5
   try clear hcz36_6
   try clear hcz36_7
   try clear hcz36_8
   try clear hcz37_0
   try clear hcz37_1
   try clear hcz37_2
   try clear hcz37_3
   try clear hcz37_4
   try clear hcz37_5
   try clear hcz37_6
   try clear hcz37_7
   try clear hcz37_8
   try clear hcz41_0
   try clear hcz41_1
   try clear hcz41_2
   try clear hcz41_3
   try clear hcz41_4
   try clear hcz41_5
   try clear hcz41_6
   try clear hcz41_7
   try clear hcz41_8
   try clear hcz43_0
   try clear hcz43_1
   try clear hcz43_2
   try clear hcz43_3
   try clear hcz43_4
   try clear hcz43_5
   try clear hcz43_6
   try clear hcz43_7
   try clear hcz43_8
   try clear hfz13_0
   try clear hfz13_1
   try clear hfz13_2
   try clear hfz13_3
   try clear hfz13_4
   try clear hfz13_5
   try clear hfz13_6
   try clear hfz13_7
   try clear hfz13_8
   try clear hfz15_0
   try clear hfz15_1
   try clear hfz15_2
   try clear hfz15_3
   try clear hfz15_4
   try clear hfz15_5
   try clear hfz15_6
   try clear hfz15_7
   try clear hfz15_8
   try clear hfz21_0
   try clear hfz21_1
   try clear hfz21_2
   try clear hfz21_3
   try clear hfz21_4
   try clear hfz21_5
   try clear hfz21_6
   try clear hfz21_7
   try clear hfz21_8
   try clear hfz26_0
   try clear hfz26_1
   try clear hfz26_2
   try clear hfz26_3
   try clear hfz26_4
   try clear hfz26_5
   try clear hfz26_6
   try clear hfz26_7
   try clear hfz26_8
   try clear hfz34_0
   try clear hfz34_1
   try clear hfz34_2
   try clear hfz34_3
   try clear hfz34_4
   try clear hfz34_5
   try clear hfz34_6
   try clear hfz34_7
   try clear hfz34_8
   try clear hfz36_0
   try clear hfz36_1
   try clear hfz36_2
   try clear hfz36_3
   try clear hfz36_4
   try clear hfz36_5
   try clear hfz36_6
   try clear hfz36_7
   try clear hfz36_8
   try clear hfz37_0
   try clear hfz37_1
   try clear hfz37_2
   try clear hfz37_3
   try clear hfz37_4
   try clear hfz37_5
   try clear hfz37_6
   try clear hfz37_7
   try clear hfz37_8
   try clear hfz41_0
   try clear hfz41_1
   try clear hfz41_2
   try clear hfz41_3
   try clear hfz41_4
   try clear hfz41_5
   try clear hfz41_6
   try clear hfz41_7
   try clear hfz41_8
   try clear hfz43_0
   try clear hfz43_1
   try clear hfz43_2
   try clear hfz43_3
   try clear hfz43_4
   try clear hfz43_5
   try clear hfz43_6
   try clear hfz43_7
   try clear hfz43_8
   obtain ⟨kq, x68_9, rfl, HA, HJ9, BK357, BK373, BK384, HB⟩ := hcut
   cases kq with
   | zero => exact absurd HA.out (by simp [laws_FnArticleTexts.j0])
   | succ kj9 =>
    have H := HA.out
    clear HA
    simp only [laws_FnArticleTexts.j0] at H
    by_cases c44 : x68_9 = true
    ·
     subst c44
     have H1 : (some false) = some r := by rw [if_pos rfl] at H; exact H
     clear H
     have H := H1
     clear H1
     obtain rfl := Option.some.inj H
     exact absurd hr_.out (by decide)
    ·
     replace c44 := Bool.eq_false_iff.mpr c44
     subst c44
     have H1 : (if t372 = 0 then ((impl_ArticleText.f kj9 t363 t364 t365 t366 t367 t368 t369 t370 t371).bind fun bt386 => (if bt386.2 = 0 then (laws_FnArticleTexts.j1 kj9 t358 t359 (bt386.1.toList != t362.toList) t348 t349 t350 t351 t352 t353 t354 t355 t356) else (laws_FnArticleTexts.j1 kj9 t358 t359 true t348 t349 t350 t351 t352 t353 t354 t355 t356))) else (if t359 = 0 then ((impl_ReadArticle.f kj9 t358).bind fun bt399 => (if bt399.2.2.2.2.2.2.2.2.2 = 0 then (some (bt399.1.toList == t348.toList && (bt399.2.1 == t349 && (bt399.2.2.1 == t350 && (bt399.2.2.2.1 == t351 && (bt399.2.2.2.2.1 == t352 && (bt399.2.2.2.2.2.1 == t353 && (bt399.2.2.2.2.2.2.1 == t354 && (bt399.2.2.2.2.2.2.2.1 == t355 && (bt399.2.2.2.2.2.2.2.2.1 == t356)))))))))) else (some false))) else (some true))) = some r := by rw [if_neg (show ¬ (false = true) by decide)] at H; exact H
     clear H
     have H := H1
     clear H1
     by_cases c45 : t372 = 0
     ·
      rw [if_pos c45] at H
      have c45b0 : (t372 == 0) = true := beq_iff_eq.mpr c45
      have c45b1 : (t372 != 0) = false := bne_eq_false_iff_eq.mpr c45
      clear c45
      replace H := Option.bind_eq_some_iff.mp H
      obtain ⟨⟨t386, t387⟩, A460, H⟩ := H
      replace H : (if t387 = 0 then (laws_FnArticleTexts.j1 kj9 t358 t359 (t386.toList != t362.toList) t348 t349 t350 t351 t352 t353 t354 t355 t356) else (laws_FnArticleTexts.j1 kj9 t358 t359 true t348 t349 t350 t351 t352 t353 t354 t355 t356)) = some r := H
      have A46 := Aside0.mk A460
      clear A460
      have HC47 := Aside0.mk H
      clear H
      have hnb48 := NB373_357.out
      have hnc48 := NB357_373.out
      have hnb49 := NB373_384.out
      have hnc49 := NB384_373.out
      have hcz50_0 : wc.cell? ⟨gb373, 0, none⟩ = some (.string t363) := (blk_cell BK373.out 0).trans rfl
      have hcz50_1 : wc.cell? ⟨gb373, 1, none⟩ = some (.int .i64 t364) := (blk_cell BK373.out 1).trans rfl
      have hcz50_2 : wc.cell? ⟨gb373, 2, none⟩ = some (.int .i64 t365) := (blk_cell BK373.out 2).trans rfl
      have hcz50_3 : wc.cell? ⟨gb373, 3, none⟩ = some (.int .i64 t366) := (blk_cell BK373.out 3).trans rfl
      have hcz50_4 : wc.cell? ⟨gb373, 4, none⟩ = some (.int .i64 t367) := (blk_cell BK373.out 4).trans rfl
      have hcz50_5 : wc.cell? ⟨gb373, 5, none⟩ = some (.int .i64 t368) := (blk_cell BK373.out 5).trans rfl
      have hcz50_6 : wc.cell? ⟨gb373, 6, none⟩ = some (.int .i64 t369) := (blk_cell BK373.out 6).trans rfl
      have hcz50_7 : wc.cell? ⟨gb373, 7, none⟩ = some (.int .i64 t370) := (blk_cell BK373.out 7).trans rfl
      have hcz50_8 : wc.cell? ⟨gb373, 8, none⟩ = some (.int .i64 t371) := (blk_cell BK373.out 8).trans rfl
      have hfz50_0 := blk_frozen BK373.out 0
      have hfz50_1 := blk_frozen BK373.out 1
      have hfz50_2 := blk_frozen BK373.out 2
      have hfz50_3 := blk_frozen BK373.out 3
      have hfz50_4 := blk_frozen BK373.out 4
      have hfz50_5 := blk_frozen BK373.out 5
      have hfz50_6 := blk_frozen BK373.out 6
      have hfz50_7 := blk_frozen BK373.out 7
      have hfz50_8 := blk_frozen BK373.out 8
      go_upto_region 13 with (first | ((with_reducible refine gate_callee (f := 21) rfl ?_); refine goesL_ (some 73) rfl rfl Try.func21 (by kernel_rfl) rfl #[.agg #[.string t363, .int .i64 t364, .int .i64 t365, .int .i64 t366, .int .i64 t367, .int .i64 t368, .int .i64 t369, .int .i64 t370, .int .i64 t371]] rfl (by (try simp only [List.map_toArray, List.map_cons, List.map_nil]); first | done | rfl | (go_simp; done) | simp) ?_; (with_reducible refine (impl_ArticleText.calls kj9 t363 t364 t365 t366 t367 t368 t369 t370 t371 t386 t387 _ A46.out).mono ?_); rintro e w51 ⟨rfl, hb⟩; refine ⟨_, rfl, ?_⟩; have n0_ := Aside0.mk (blk_below (g := gb357) (o := .cells #[.string t348, .int .i64 t349, .int .i64 t350, .int .i64 t351, .int .i64 t352, .int .i64 t353, .int .i64 t354, .int .i64 t355, .int .i64 t356] 26 (0, 0)) (by (with_reducible repeat first | apply bN | apply bD | apply bA); exact BK357.out) hb); have n1_ := Aside0.mk (blk_below (g := gb373) (o := .cells #[.string t363, .int .i64 t364, .int .i64 t365, .int .i64 t366, .int .i64 t367, .int .i64 t368, .int .i64 t369, .int .i64 t370, .int .i64 t371] 26 (0, 0)) (by (with_reducible repeat first | apply bN | apply bD | apply bA); exact BK373.out) hb); have n2_ := Aside0.mk (blk_below (g := gb384) (o := .cells #[.string t374, .int .i64 t375, .int .i64 t376, .int .i64 t377, .int .i64 t378, .int .i64 t379, .int .i64 t380, .int .i64 t381, .int .i64 t382] 26 (0, 0)) (by (with_reducible repeat first | apply bN | apply bD | apply bA); exact BK384.out) hb); have n3_ := Aside0.mk (below_step (by repeat (first | (with_reducible first | exact HB.out | apply lA | apply lN | apply lD | refine below_set ?_ GE357.out | refine below_set ?_ GE373.out | refine below_set ?_ GE384.out) | exact HB.out)) hb); clear BK357; clear BK373; clear BK384; clear HB; have BK357 := n0_; have BK373 := n1_; have BK384 := n2_; have HB := n3_; clear n0_ n1_ n2_ n3_; (try clear hb); (try clear hb2); (try clear hk); (try clear hi)))
      (try simp only [Act.put, sT, s0, sS])
      go_cut [82] (fun v82 wc => ∃ (kq : Nat) (x82_46 : Bool), v82 = .bool x82_46 ∧ Aside0 (laws_FnArticleTexts.j1 kq t358 t359 x82_46 t348 t349 t350 t351 t352 t353 t354 t355 t356 = some r) ∧ Aside0 (kq ≤ kj9) ∧ Aside0 (wc.heap[gb357]? = some (.cells #[.string t348, .int .i64 t349, .int .i64 t350, .int .i64 t351, .int .i64 t352, .int .i64 t353, .int .i64 t354, .int .i64 t355, .int .i64 t356] 26 (0, 0))) ∧ Aside0 (wc.heap[gb373]? = some (.cells #[.string t363, .int .i64 t364, .int .i64 t365, .int .i64 t366, .int .i64 t367, .int .i64 t368, .int .i64 t369, .int .i64 t370, .int .i64 t371] 26 (0, 0))) ∧ Aside0 (wc.heap[gb384]? = some (.cells #[.string t374, .int .i64 t375, .int .i64 t376, .int .i64 t377, .int .i64 t378, .int .i64 t379, .int .i64 t380, .int .i64 t381, .int .i64 t382] 26 (0, 0))) ∧ Aside0 (Below w.heap.size w wc))
      case first =>
       have H := HC47.out
       clear HC47
       by_cases c52 : t387 = 0
       ·
        rw [if_pos c52] at H
        have c52b0 : (t387 == 0) = true := beq_iff_eq.mpr c52
        have c52b1 : (t387 != 0) = false := bne_eq_false_iff_eq.mpr c52
        clear c52
        (first | rw [c52b0] | (simp only [i64_w, i32_w]; rw [c52b0]) | skip)
        have H' := Aside0.mk H
        clear H
        go_wp2
        go_meet
        case rel => exact ⟨_, ((t386.toList != t362.toList)), (by first | rfl | (simp; done) | (simp [*]; done)), H', ⟨by have := HJ9.out; first | omega | exact Nat.le_refl _⟩, ⟨by (with_reducible repeat first | apply bN | apply bD | apply bA); exact BK357.out⟩, ⟨by (with_reducible repeat first | apply bN | apply bD | apply bA); exact BK373.out⟩, ⟨by (with_reducible repeat first | apply bN | apply bD | apply bA); exact BK384.out⟩, ⟨by repeat (first | (with_reducible first | exact HB.out | apply lA | apply lN | apply lD | refine below_set ?_ GE357.out | refine below_set ?_ GE373.out | refine below_set ?_ GE384.out) | exact HB.out)⟩⟩
       ·
        rw [if_neg c52] at H
        have c52b0 : (t387 == 0) = false := beq_eq_false_iff_ne.mpr c52
        have c52b1 : (t387 != 0) = true := bne_iff_ne.mpr c52
        (first | rw [c52b0] | (simp only [i64_w, i32_w]; rw [c52b0]) | skip)
        first | exact absurd (H.trans (congrArg some hr_.out)) (j0T _ _ _ _ _ _ _ _ _ _ _ _ _ _ _ _ _ _ _ _ _ _ _) | exact absurd (H.trans (congrArg some hr_.out)) (j1T _ _ _ _ _ _ _ _ _ _ _ _)
      case rest =>
       clear HC47
       try clear c1
       try clear c2
       try clear p2
       try clear c3
       try clear c4
       try clear c5
       try clear c19
       try clear c20
       try clear c21
       try clear c22
       try clear c23
       try clear c24
       try clear c25
       try clear c27
       try clear c27b0
       try clear c27b1
       try clear c28
       try clear c28b0
       try clear c28b1
       try clear c29
       try clear c29b0
       try clear c29b1
       try clear c30
       try clear c30b0
       try clear c30b1
       try clear c30b2
       try clear c32
       try clear c33
       try clear c35
       try clear c39
       try clear c40
       try clear c42
       try clear c44
       try clear c45
       try clear c45b0
       try clear c45b1
       try clear c48
       try clear c49
       try clear c52
       try clear c52b0
       try clear c52b1
       try clear hcz13_0
       try clear hcz13_1
       try clear hcz13_2
       try clear hcz13_3
       try clear hcz13_4
       try clear hcz13_5
       try clear hcz13_6
       try clear hcz13_7
       try clear hcz13_8
       try clear hcz15_0
       try clear hcz15_1
       try clear hcz15_2
       try clear hcz15_3
       try clear hcz15_4
       try clear hcz15_5
       try clear hcz15_6
       try clear hcz15_7
       try clear hcz15_8
       try clear hcz21_0
       try clear hcz21_1
       try clear hcz21_2
       try clear hcz21_3
       try clear hcz21_4
       try clear hcz21_5
       try clear hcz21_6
       try clear hcz21_7
       try clear hcz21_8
       try clear hcz26_0
       try clear hcz26_1
       try clear hcz26_2
       try clear hcz26_3
       try clear hcz26_4
       try clear hcz26_5
       try clear hcz26_6
       try clear hcz26_7
       try clear hcz26_8
       try clear hcz34_0
       try clear hcz34_1
       try clear hcz34_2
       try clear hcz34_3
       try clear hcz34_4
       try clear hcz34_5
       try clear hcz34_6
       try clear hcz34_7
       try clear hcz34_8
       try clear hcz36_0
       try clear hcz36_1
       try clear hcz36_2
       try clear hcz36_3
       try clear hcz36_4
       try clear hcz36_5
       try clear hcz36_6
       try clear hcz36_7
       try clear hcz36_8
       try clear hcz37_0
       try clear hcz37_1
       try clear hcz37_2
       try clear hcz37_3
       try clear hcz37_4
       try clear hcz37_5
       try clear hcz37_6
       try clear hcz37_7
       try clear hcz37_8
       try clear hcz41_0
       try clear hcz41_1
       try clear hcz41_2
       try clear hcz41_3
       try clear hcz41_4
       try clear hcz41_5
       try clear hcz41_6
       try clear hcz41_7
       try clear hcz41_8
       try clear hcz43_0
       try clear hcz43_1
       try clear hcz43_2
       try clear hcz43_3
       try clear hcz43_4
       try clear hcz43_5
       try clear hcz43_6
       try clear hcz43_7
       try clear hcz43_8
       try clear hcz50_0
       try clear hcz50_1
       try clear hcz50_2
       try clear hcz50_3
       try clear hcz50_4
       try clear hcz50_5
       try clear hcz50_6
       try clear hcz50_7
       try clear hcz50_8
       try clear hfz13_0
       try clear hfz13_1
       try clear hfz13_2
       try clear hfz13_3
       try clear hfz13_4
       try clear hfz13_5
       try clear hfz13_6
       try clear hfz13_7
       try clear hfz13_8
       try clear hfz15_0
       try clear hfz15_1
       try clear hfz15_2
       try clear hfz15_3
       try clear hfz15_4
       try clear hfz15_5
       try clear hfz15_6
       try clear hfz15_7
       try clear hfz15_8
       try clear hfz21_0
       try clear hfz21_1
       try clear hfz21_2
       try clear hfz21_3
       try clear hfz21_4
       try clear hfz21_5
       try clear hfz21_6
       try clear hfz21_7
       try clear hfz21_8
       try clear hfz26_0
       try clear hfz26_1
       try clear hfz26_2
       try clear hfz26_3
       try clear hfz26_4
       try clear hfz26_5
       try clear hfz26_6
       try clear hfz26_7
       try clear hfz26_8
       try clear hfz34_0
       try clear hfz34_1
       try clear hfz34_2
       try clear hfz34_3
       try clear hfz34_4
       try clear hfz34_5
       try clear hfz34_6
       try clear hfz34_7
       try clear hfz34_8
       try clear hfz36_0
       try clear hfz36_1
       try clear hfz36_2
       try clear hfz36_3
       try clear hfz36_4
       try clear hfz36_5
       try clear hfz36_6
       try clear hfz36_7
       try clear hfz36_8
       try clear hfz37_0
       try clear hfz37_1
       try clear hfz37_2
       try clear hfz37_3
       try clear hfz37_4
       try clear hfz37_5
       try clear hfz37_6
       try clear hfz37_7
       try clear hfz37_8
       try clear hfz41_0
       try clear hfz41_1
       try clear hfz41_2
       try clear hfz41_3
       try clear hfz41_4
       try clear hfz41_5
       try clear hfz41_6
       try clear hfz41_7
       try clear hfz41_8
       try clear hfz43_0
       try clear hfz43_1
       try clear hfz43_2
       try clear hfz43_3
       try clear hfz43_4
       try clear hfz43_5
       try clear hfz43_6
       try clear hfz43_7
       try clear hfz43_8
       try clear hfz50_0
       try clear hfz50_1
       try clear hfz50_2
       try clear hfz50_3
       try clear hfz50_4
       try clear hfz50_5
       try clear hfz50_6
       try clear hfz50_7
       try clear hfz50_8
       try clear p2
       obtain ⟨kq, x82_46, rfl, HA, HJ46, BK357, BK373, BK384, HB⟩ := hcut
       cases kq with
       | zero => exact absurd HA.out (by simp [laws_FnArticleTexts.j1])
       | succ kj46 =>
        have H := HA.out
        clear HA
        simp only [laws_FnArticleTexts.j1] at H
        by_cases c53 : x82_46 = true
        ·
         subst c53
         have H1 : (some false) = some r := by rw [if_pos rfl] at H; exact H
         clear H
         have H := H1
         clear H1
         obtain rfl := Option.some.inj H
         exact absurd hr_.out (by decide)
        ·
         replace c53 := Bool.eq_false_iff.mpr c53
         subst c53
         have H1 : (if t359 = 0 then ((impl_ReadArticle.f kj46 t358).bind fun bt388 => (if bt388.2.2.2.2.2.2.2.2.2 = 0 then (some (bt388.1.toList == t348.toList && (bt388.2.1 == t349 && (bt388.2.2.1 == t350 && (bt388.2.2.2.1 == t351 && (bt388.2.2.2.2.1 == t352 && (bt388.2.2.2.2.2.1 == t353 && (bt388.2.2.2.2.2.2.1 == t354 && (bt388.2.2.2.2.2.2.2.1 == t355 && (bt388.2.2.2.2.2.2.2.2.1 == t356)))))))))) else (some false))) else (some true)) = some r := by rw [if_neg (show ¬ (false = true) by decide)] at H; exact H
         clear H
         have H := H1
         clear H1
         by_cases c54 : t359 = 0
         ·
          rw [if_pos c54] at H
          have c54b0 : (t359 == 0) = true := beq_iff_eq.mpr c54
          have c54b1 : (t359 != 0) = false := bne_eq_false_iff_eq.mpr c54
          clear c54
          replace H := Option.bind_eq_some_iff.mp H
          obtain ⟨⟨t388, t389, t390, t391, t392, t393, t394, t395, t396, t397⟩, A550, H⟩ := H
          replace H : (if t397 = 0 then (some (t388.toList == t348.toList && (t389 == t349 && (t390 == t350 && (t391 == t351 && (t392 == t352 && (t393 == t353 && (t394 == t354 && (t395 == t355 && (t396 == t356)))))))))) else (some false)) = some r := H
          have A55 := Aside0.mk A550
          clear A550
          by_cases c56 : t397 = 0
          ·
           rw [if_pos c56] at H
           have c56b0 : (t397 == 0) = true := beq_iff_eq.mpr c56
           have c56b1 : (t397 != 0) = false := bne_eq_false_iff_eq.mpr c56
           clear c56
           obtain rfl := Option.some.inj H
           simp only [Option.some.injEq, Prod.mk.injEq] at H
           obtain ⟨rfl⟩ := H
           go_wp2_with (first | ((with_reducible refine gate_callee (f := 24) rfl ?_); refine goesL_ (some 87) rfl rfl Try.func24 (by kernel_rfl) rfl #[.string t358] rfl (by (try simp only [List.map_toArray, List.map_cons, List.map_nil]); first | done | rfl | (go_simp; done) | simp) ?_; (with_reducible refine (impl_ReadArticle.calls kj46 t358 t388 t389 t390 t391 t392 t393 t394 t395 t396 t397 _ A55.out).mono ?_); rintro e w57 ⟨rfl, hb⟩; refine ⟨_, rfl, ?_⟩; have n0_ := Aside0.mk (blk_below (g := gb357) (o := .cells #[.string t348, .int .i64 t349, .int .i64 t350, .int .i64 t351, .int .i64 t352, .int .i64 t353, .int .i64 t354, .int .i64 t355, .int .i64 t356] 26 (0, 0)) (by (with_reducible repeat first | apply bN | apply bD | apply bA); exact BK357.out) hb); have n1_ := Aside0.mk (blk_below (g := gb373) (o := .cells #[.string t363, .int .i64 t364, .int .i64 t365, .int .i64 t366, .int .i64 t367, .int .i64 t368, .int .i64 t369, .int .i64 t370, .int .i64 t371] 26 (0, 0)) (by (with_reducible repeat first | apply bN | apply bD | apply bA); exact BK373.out) hb); have n2_ := Aside0.mk (blk_below (g := gb384) (o := .cells #[.string t374, .int .i64 t375, .int .i64 t376, .int .i64 t377, .int .i64 t378, .int .i64 t379, .int .i64 t380, .int .i64 t381, .int .i64 t382] 26 (0, 0)) (by (with_reducible repeat first | apply bN | apply bD | apply bA); exact BK384.out) hb); have n3_ := Aside0.mk (below_step (by repeat (first | (with_reducible first | exact HB.out | apply lA | apply lN | apply lD | refine below_set ?_ GE357.out | refine below_set ?_ GE373.out | refine below_set ?_ GE384.out) | exact HB.out)) hb); clear BK357; clear BK373; clear BK384; clear HB; have BK357 := n0_; have BK373 := n1_; have BK384 := n2_; have HB := n3_; clear n0_ n1_ n2_ n3_; (try clear hb); (try clear hb2); (try clear hk); (try clear hi)) | ((with_reducible refine gate_dst (N := 15) rfl ?_); refine box_event ?hg (N := 15) ?hd (cs := #[.string (⟨#[]⟩ : ByteArray), .int .i64 0, .int .i64 0, .int .i64 0, .int .i64 0, .int .i64 0, .int .i64 0, .int .i64 0, .int .i64 0]) (t := 26) ?hr ?_; (case hd => rfl); (case hg => rfl); (case hr => first | (go_simp; done) | (go_simp; rfl)); intro gb398 hg w58 hbox hb; have n0_ := Aside0.mk (blk_below (g := gb357) (o := .cells #[.string t348, .int .i64 t349, .int .i64 t350, .int .i64 t351, .int .i64 t352, .int .i64 t353, .int .i64 t354, .int .i64 t355, .int .i64 t356] 26 (0, 0)) (by (with_reducible repeat first | apply bN | apply bD | apply bA); exact BK357.out) hb); have n1_ := Aside0.mk (blk_below (g := gb373) (o := .cells #[.string t363, .int .i64 t364, .int .i64 t365, .int .i64 t366, .int .i64 t367, .int .i64 t368, .int .i64 t369, .int .i64 t370, .int .i64 t371] 26 (0, 0)) (by (with_reducible repeat first | apply bN | apply bD | apply bA); exact BK373.out) hb); have n2_ := Aside0.mk (blk_below (g := gb384) (o := .cells #[.string t374, .int .i64 t375, .int .i64 t376, .int .i64 t377, .int .i64 t378, .int .i64 t379, .int .i64 t380, .int .i64 t381, .int .i64 t382] 26 (0, 0)) (by (with_reducible repeat first | apply bN | apply bD | apply bA); exact BK384.out) hb); have n3_ := Aside0.mk (below_step (by repeat (first | (with_reducible first | exact HB.out | apply lA | apply lN | apply lD | refine below_set ?_ GE357.out | refine below_set ?_ GE373.out | refine below_set ?_ GE384.out) | exact HB.out)) hb); have n4_ := Aside0.mk (hbox); have n5_ := Aside0.mk ((by rw [hg]; exact (below_size (by repeat (first | (with_reducible first | exact HB.out | apply lA | apply lN | apply lD | refine below_set ?_ GE357.out | refine below_set ?_ GE373.out | refine below_set ?_ GE384.out) | exact HB.out))) : w.heap.size ≤ gb398)); have n6_ := Aside0.mk ((by rw [hg]; exact (below_size (by repeat (first | (with_reducible first | exact HB.out | apply lA | apply lN | apply lD | refine below_set ?_ GE357.out | refine below_set ?_ GE373.out | refine below_set ?_ GE384.out) | exact HB.out))) : w.heap.size ≤ gb398)); have n7_ := Aside0.mk ((by rw [hg]; exact Nat.ne_of_lt (blk_lt (g := gb357) (o := .cells #[.string t348, .int .i64 t349, .int .i64 t350, .int .i64 t351, .int .i64 t352, .int .i64 t353, .int .i64 t354, .int .i64 t355, .int .i64 t356] 26 (0, 0)) (by (with_reducible repeat first | apply bN | apply bD | apply bA); exact BK357.out)) : gb357 ≠ gb398)); have n8_ := Aside0.mk ((by rw [hg]; exact Nat.ne_of_gt (blk_lt (g := gb357) (o := .cells #[.string t348, .int .i64 t349, .int .i64 t350, .int .i64 t351, .int .i64 t352, .int .i64 t353, .int .i64 t354, .int .i64 t355, .int .i64 t356] 26 (0, 0)) (by (with_reducible repeat first | apply bN | apply bD | apply bA); exact BK357.out)) : gb398 ≠ gb357)); have n9_ := Aside0.mk ((by rw [hg]; exact Nat.ne_of_lt (blk_lt (g := gb373) (o := .cells #[.string t363, .int .i64 t364, .int .i64 t365, .int .i64 t366, .int .i64 t367, .int .i64 t368, .int .i64 t369, .int .i64 t370, .int .i64 t371] 26 (0, 0)) (by (with_reducible repeat first | apply bN | apply bD | apply bA); exact BK373.out)) : gb373 ≠ gb398)); have n10_ := Aside0.mk ((by rw [hg]; exact Nat.ne_of_gt (blk_lt (g := gb373) (o := .cells #[.string t363, .int .i64 t364, .int .i64 t365, .int .i64 t366, .int .i64 t367, .int .i64 t368, .int .i64 t369, .int .i64 t370, .int .i64 t371] 26 (0, 0)) (by (with_reducible repeat first | apply bN | apply bD | apply bA); exact BK373.out)) : gb398 ≠ gb373)); have n11_ := Aside0.mk ((by rw [hg]; exact Nat.ne_of_lt (blk_lt (g := gb384) (o := .cells #[.string t374, .int .i64 t375, .int .i64 t376, .int .i64 t377, .int .i64 t378, .int .i64 t379, .int .i64 t380, .int .i64 t381, .int .i64 t382] 26 (0, 0)) (by (with_reducible repeat first | apply bN | apply bD | apply bA); exact BK384.out)) : gb384 ≠ gb398)); have n12_ := Aside0.mk ((by rw [hg]; exact Nat.ne_of_gt (blk_lt (g := gb384) (o := .cells #[.string t374, .int .i64 t375, .int .i64 t376, .int .i64 t377, .int .i64 t378, .int .i64 t379, .int .i64 t380, .int .i64 t381, .int .i64 t382] 26 (0, 0)) (by (with_reducible repeat first | apply bN | apply bD | apply bA); exact BK384.out)) : gb398 ≠ gb384)); clear BK357; clear BK373; clear BK384; clear HB; have BK357 := n0_; have BK373 := n1_; have BK384 := n2_; have HB := n3_; have BK398 := n4_; have GW398 := n5_; have GE398 := n6_; have NB357_398 := n7_; have NB398_357 := n8_; have NB373_398 := n9_; have NB398_373 := n10_; have NB384_398 := n11_; have NB398_384 := n12_; clear n0_ n1_ n2_ n3_ n4_ n5_ n6_ n7_ n8_ n9_ n10_ n11_ n12_; clear hb hbox hg; have hnb59 := NB398_357.out; have hnc59 := NB357_398.out; have hnb60 := NB398_373.out; have hnc60 := NB373_398.out; have hnb61 := NB398_384.out; have hnc61 := NB384_398.out; have hcz62_0 : w58.cell? ⟨gb398, 0, none⟩ = some (.string (⟨#[]⟩ : ByteArray)) := (blk_cell BK398.out 0).trans rfl; have hcz62_1 : w58.cell? ⟨gb398, 1, none⟩ = some (.int .i64 0) := (blk_cell BK398.out 1).trans rfl; have hcz62_2 : w58.cell? ⟨gb398, 2, none⟩ = some (.int .i64 0) := (blk_cell BK398.out 2).trans rfl; have hcz62_3 : w58.cell? ⟨gb398, 3, none⟩ = some (.int .i64 0) := (blk_cell BK398.out 3).trans rfl; have hcz62_4 : w58.cell? ⟨gb398, 4, none⟩ = some (.int .i64 0) := (blk_cell BK398.out 4).trans rfl; have hcz62_5 : w58.cell? ⟨gb398, 5, none⟩ = some (.int .i64 0) := (blk_cell BK398.out 5).trans rfl; have hcz62_6 : w58.cell? ⟨gb398, 6, none⟩ = some (.int .i64 0) := (blk_cell BK398.out 6).trans rfl; have hcz62_7 : w58.cell? ⟨gb398, 7, none⟩ = some (.int .i64 0) := (blk_cell BK398.out 7).trans rfl; have hcz62_8 : w58.cell? ⟨gb398, 8, none⟩ = some (.int .i64 0) := (blk_cell BK398.out 8).trans rfl; have hfz62_0 := blk_frozen BK398.out 0; have hfz62_1 := blk_frozen BK398.out 1; have hfz62_2 := blk_frozen BK398.out 2; have hfz62_3 := blk_frozen BK398.out 3; have hfz62_4 := blk_frozen BK398.out 4; have hfz62_5 := blk_frozen BK398.out 5; have hfz62_6 := blk_frozen BK398.out 6; have hfz62_7 := blk_frozen BK398.out 7; have hfz62_8 := blk_frozen BK398.out 8; have hnb63 := NB357_373.out; have hnc63 := NB373_357.out; have hnb64 := NB357_384.out; have hnc64 := NB384_357.out; have hcz65_0 : w58.cell? ⟨gb357, 0, none⟩ = some (.string t348) := (blk_cell BK357.out 0).trans rfl; have hcz65_1 : w58.cell? ⟨gb357, 1, none⟩ = some (.int .i64 t349) := (blk_cell BK357.out 1).trans rfl; have hcz65_2 : w58.cell? ⟨gb357, 2, none⟩ = some (.int .i64 t350) := (blk_cell BK357.out 2).trans rfl; have hcz65_3 : w58.cell? ⟨gb357, 3, none⟩ = some (.int .i64 t351) := (blk_cell BK357.out 3).trans rfl; have hcz65_4 : w58.cell? ⟨gb357, 4, none⟩ = some (.int .i64 t352) := (blk_cell BK357.out 4).trans rfl; have hcz65_5 : w58.cell? ⟨gb357, 5, none⟩ = some (.int .i64 t353) := (blk_cell BK357.out 5).trans rfl; have hcz65_6 : w58.cell? ⟨gb357, 6, none⟩ = some (.int .i64 t354) := (blk_cell BK357.out 6).trans rfl; have hcz65_7 : w58.cell? ⟨gb357, 7, none⟩ = some (.int .i64 t355) := (blk_cell BK357.out 7).trans rfl; have hcz65_8 : w58.cell? ⟨gb357, 8, none⟩ = some (.int .i64 t356) := (blk_cell BK357.out 8).trans rfl; have hfz65_0 := blk_frozen BK357.out 0; have hfz65_1 := blk_frozen BK357.out 1; have hfz65_2 := blk_frozen BK357.out 2; have hfz65_3 := blk_frozen BK357.out 3; have hfz65_4 := blk_frozen BK357.out 4; have hfz65_5 := blk_frozen BK357.out 5; have hfz65_6 := blk_frozen BK357.out 6; have hfz65_7 := blk_frozen BK357.out 7; have hfz65_8 := blk_frozen BK357.out 8))
           go_ret
           exact ⟨by first | rfl | (simp [errW_none, errW_some] <;> rfl) | (simp [*, errW_none, errW_some] <;> rfl), by repeat (first | (with_reducible first | exact HB.out | apply lA | apply lN | apply lD | refine below_set ?_ GE357.out | refine below_set ?_ GE373.out | refine below_set ?_ GE384.out | refine below_set ?_ GE398.out) | exact HB.out)⟩
          ·
           rw [if_neg c56] at H
           have c56b0 : (t397 == 0) = false := beq_eq_false_iff_ne.mpr c56
           have c56b1 : (t397 != 0) = true := bne_iff_ne.mpr c56
           obtain rfl := Option.some.inj H
           exact absurd hr_.out (by decide)
         ·
          rw [if_neg c54] at H
          have c54b0 : (t359 == 0) = false := beq_eq_false_iff_ne.mpr c54
          have c54b1 : (t359 != 0) = true := bne_iff_ne.mpr c54
          obtain rfl := Option.some.inj H
          simp only [Option.some.injEq, Prod.mk.injEq] at H
          obtain ⟨rfl⟩ := H
          go_wp2
          go_ret
          exact ⟨by first | rfl | (simp [errW_none, errW_some] <;> rfl) | (simp [*, errW_none, errW_some] <;> rfl), by repeat (first | (with_reducible first | exact HB.out | apply lA | apply lN | apply lD | refine below_set ?_ GE357.out | refine below_set ?_ GE373.out | refine below_set ?_ GE384.out) | exact HB.out)⟩
     ·
      rw [if_neg c45] at H
      have c45b0 : (t372 == 0) = false := beq_eq_false_iff_ne.mpr c45
      have c45b1 : (t372 != 0) = true := bne_iff_ne.mpr c45
      by_cases c66 : t359 = 0
      ·
       rw [if_pos c66] at H
       have c66b0 : (t359 == 0) = true := beq_iff_eq.mpr c66
       have c66b1 : (t359 != 0) = false := bne_eq_false_iff_eq.mpr c66
       clear c66
       replace H := Option.bind_eq_some_iff.mp H
       obtain ⟨⟨t399, t400, t401, t402, t403, t404, t405, t406, t407, t408⟩, A670, H⟩ := H
       replace H : (if t408 = 0 then (some (t399.toList == t348.toList && (t400 == t349 && (t401 == t350 && (t402 == t351 && (t403 == t352 && (t404 == t353 && (t405 == t354 && (t406 == t355 && (t407 == t356)))))))))) else (some false)) = some r := H
       have A67 := Aside0.mk A670
       clear A670
       by_cases c68 : t408 = 0
       ·
        rw [if_pos c68] at H
        have c68b0 : (t408 == 0) = true := beq_iff_eq.mpr c68
        have c68b1 : (t408 != 0) = false := bne_eq_false_iff_eq.mpr c68
        clear c68
        obtain rfl := Option.some.inj H
        simp only [Option.some.injEq, Prod.mk.injEq] at H
        obtain ⟨rfl⟩ := H
        go_wp2_with (first | ((with_reducible refine gate_callee (f := 24) rfl ?_); refine goesL_ (some 87) rfl rfl Try.func24 (by kernel_rfl) rfl #[.string t358] rfl (by (try simp only [List.map_toArray, List.map_cons, List.map_nil]); first | done | rfl | (go_simp; done) | simp) ?_; (with_reducible refine (impl_ReadArticle.calls kj9 t358 t399 t400 t401 t402 t403 t404 t405 t406 t407 t408 _ A67.out).mono ?_); rintro e w69 ⟨rfl, hb⟩; refine ⟨_, rfl, ?_⟩; have n0_ := Aside0.mk (blk_below (g := gb357) (o := .cells #[.string t348, .int .i64 t349, .int .i64 t350, .int .i64 t351, .int .i64 t352, .int .i64 t353, .int .i64 t354, .int .i64 t355, .int .i64 t356] 26 (0, 0)) (by (with_reducible repeat first | apply bN | apply bD | apply bA); exact BK357.out) hb); have n1_ := Aside0.mk (blk_below (g := gb373) (o := .cells #[.string t363, .int .i64 t364, .int .i64 t365, .int .i64 t366, .int .i64 t367, .int .i64 t368, .int .i64 t369, .int .i64 t370, .int .i64 t371] 26 (0, 0)) (by (with_reducible repeat first | apply bN | apply bD | apply bA); exact BK373.out) hb); have n2_ := Aside0.mk (blk_below (g := gb384) (o := .cells #[.string t374, .int .i64 t375, .int .i64 t376, .int .i64 t377, .int .i64 t378, .int .i64 t379, .int .i64 t380, .int .i64 t381, .int .i64 t382] 26 (0, 0)) (by (with_reducible repeat first | apply bN | apply bD | apply bA); exact BK384.out) hb); have n3_ := Aside0.mk (below_step (by repeat (first | (with_reducible first | exact HB.out | apply lA | apply lN | apply lD | refine below_set ?_ GE357.out | refine below_set ?_ GE373.out | refine below_set ?_ GE384.out) | exact HB.out)) hb); clear BK357; clear BK373; clear BK384; clear HB; have BK357 := n0_; have BK373 := n1_; have BK384 := n2_; have HB := n3_; clear n0_ n1_ n2_ n3_; (try clear hb); (try clear hb2); (try clear hk); (try clear hi)) | ((with_reducible refine gate_dst (N := 15) rfl ?_); refine box_event ?hg (N := 15) ?hd (cs := #[.string (⟨#[]⟩ : ByteArray), .int .i64 0, .int .i64 0, .int .i64 0, .int .i64 0, .int .i64 0, .int .i64 0, .int .i64 0, .int .i64 0]) (t := 26) ?hr ?_; (case hd => rfl); (case hg => rfl); (case hr => first | (go_simp; done) | (go_simp; rfl)); intro gb409 hg w70 hbox hb; have n0_ := Aside0.mk (blk_below (g := gb357) (o := .cells #[.string t348, .int .i64 t349, .int .i64 t350, .int .i64 t351, .int .i64 t352, .int .i64 t353, .int .i64 t354, .int .i64 t355, .int .i64 t356] 26 (0, 0)) (by (with_reducible repeat first | apply bN | apply bD | apply bA); exact BK357.out) hb); have n1_ := Aside0.mk (blk_below (g := gb373) (o := .cells #[.string t363, .int .i64 t364, .int .i64 t365, .int .i64 t366, .int .i64 t367, .int .i64 t368, .int .i64 t369, .int .i64 t370, .int .i64 t371] 26 (0, 0)) (by (with_reducible repeat first | apply bN | apply bD | apply bA); exact BK373.out) hb); have n2_ := Aside0.mk (blk_below (g := gb384) (o := .cells #[.string t374, .int .i64 t375, .int .i64 t376, .int .i64 t377, .int .i64 t378, .int .i64 t379, .int .i64 t380, .int .i64 t381, .int .i64 t382] 26 (0, 0)) (by (with_reducible repeat first | apply bN | apply bD | apply bA); exact BK384.out) hb); have n3_ := Aside0.mk (below_step (by repeat (first | (with_reducible first | exact HB.out | apply lA | apply lN | apply lD | refine below_set ?_ GE357.out | refine below_set ?_ GE373.out | refine below_set ?_ GE384.out) | exact HB.out)) hb); have n4_ := Aside0.mk (hbox); have n5_ := Aside0.mk ((by rw [hg]; exact (below_size (by repeat (first | (with_reducible first | exact HB.out | apply lA | apply lN | apply lD | refine below_set ?_ GE357.out | refine below_set ?_ GE373.out | refine below_set ?_ GE384.out) | exact HB.out))) : w.heap.size ≤ gb409)); have n6_ := Aside0.mk ((by rw [hg]; exact (below_size (by repeat (first | (with_reducible first | exact HB.out | apply lA | apply lN | apply lD | refine below_set ?_ GE357.out | refine below_set ?_ GE373.out | refine below_set ?_ GE384.out) | exact HB.out))) : w.heap.size ≤ gb409)); have n7_ := Aside0.mk ((by rw [hg]; exact Nat.ne_of_lt (blk_lt (g := gb357) (o := .cells #[.string t348, .int .i64 t349, .int .i64 t350, .int .i64 t351, .int .i64 t352, .int .i64 t353, .int .i64 t354, .int .i64 t355, .int .i64 t356] 26 (0, 0)) (by (with_reducible repeat first | apply bN | apply bD | apply bA); exact BK357.out)) : gb357 ≠ gb409)); have n8_ := Aside0.mk ((by rw [hg]; exact Nat.ne_of_gt (blk_lt (g := gb357) (o := .cells #[.string t348, .int .i64 t349, .int .i64 t350, .int .i64 t351, .int .i64 t352, .int .i64 t353, .int .i64 t354, .int .i64 t355, .int .i64 t356] 26 (0, 0)) (by (with_reducible repeat first | apply bN | apply bD | apply bA); exact BK357.out)) : gb409 ≠ gb357)); have n9_ := Aside0.mk ((by rw [hg]; exact Nat.ne_of_lt (blk_lt (g := gb373) (o := .cells #[.string t363, .int .i64 t364, .int .i64 t365, .int .i64 t366, .int .i64 t367, .int .i64 t368, .int .i64 t369, .int .i64 t370, .int .i64 t371] 26 (0, 0)) (by (with_reducible repeat first | apply bN | apply bD | apply bA); exact BK373.out)) : gb373 ≠ gb409)); have n10_ := Aside0.mk ((by rw [hg]; exact Nat.ne_of_gt (blk_lt (g := gb373) (o := .cells #[.string t363, .int .i64 t364, .int .i64 t365, .int .i64 t366, .int .i64 t367, .int .i64 t368, .int .i64 t369, .int .i64 t370, .int .i64 t371] 26 (0, 0)) (by (with_reducible repeat first | apply bN | apply bD | apply bA); exact BK373.out)) : gb409 ≠ gb373)); have n11_ := Aside0.mk ((by rw [hg]; exact Nat.ne_of_lt (blk_lt (g := gb384) (o := .cells #[.string t374, .int .i64 t375, .int .i64 t376, .int .i64 t377, .int .i64 t378, .int .i64 t379, .int .i64 t380, .int .i64 t381, .int .i64 t382] 26 (0, 0)) (by (with_reducible repeat first | apply bN | apply bD | apply bA); exact BK384.out)) : gb384 ≠ gb409)); have n12_ := Aside0.mk ((by rw [hg]; exact Nat.ne_of_gt (blk_lt (g := gb384) (o := .cells #[.string t374, .int .i64 t375, .int .i64 t376, .int .i64 t377, .int .i64 t378, .int .i64 t379, .int .i64 t380, .int .i64 t381, .int .i64 t382] 26 (0, 0)) (by (with_reducible repeat first | apply bN | apply bD | apply bA); exact BK384.out)) : gb409 ≠ gb384)); clear BK357; clear BK373; clear BK384; clear HB; have BK357 := n0_; have BK373 := n1_; have BK384 := n2_; have HB := n3_; have BK409 := n4_; have GW409 := n5_; have GE409 := n6_; have NB357_409 := n7_; have NB409_357 := n8_; have NB373_409 := n9_; have NB409_373 := n10_; have NB384_409 := n11_; have NB409_384 := n12_; clear n0_ n1_ n2_ n3_ n4_ n5_ n6_ n7_ n8_ n9_ n10_ n11_ n12_; clear hb hbox hg; have hnb71 := NB409_357.out; have hnc71 := NB357_409.out; have hnb72 := NB409_373.out; have hnc72 := NB373_409.out; have hnb73 := NB409_384.out; have hnc73 := NB384_409.out; have hcz74_0 : w70.cell? ⟨gb409, 0, none⟩ = some (.string (⟨#[]⟩ : ByteArray)) := (blk_cell BK409.out 0).trans rfl; have hcz74_1 : w70.cell? ⟨gb409, 1, none⟩ = some (.int .i64 0) := (blk_cell BK409.out 1).trans rfl; have hcz74_2 : w70.cell? ⟨gb409, 2, none⟩ = some (.int .i64 0) := (blk_cell BK409.out 2).trans rfl; have hcz74_3 : w70.cell? ⟨gb409, 3, none⟩ = some (.int .i64 0) := (blk_cell BK409.out 3).trans rfl; have hcz74_4 : w70.cell? ⟨gb409, 4, none⟩ = some (.int .i64 0) := (blk_cell BK409.out 4).trans rfl; have hcz74_5 : w70.cell? ⟨gb409, 5, none⟩ = some (.int .i64 0) := (blk_cell BK409.out 5).trans rfl; have hcz74_6 : w70.cell? ⟨gb409, 6, none⟩ = some (.int .i64 0) := (blk_cell BK409.out 6).trans rfl; have hcz74_7 : w70.cell? ⟨gb409, 7, none⟩ = some (.int .i64 0) := (blk_cell BK409.out 7).trans rfl; have hcz74_8 : w70.cell? ⟨gb409, 8, none⟩ = some (.int .i64 0) := (blk_cell BK409.out 8).trans rfl; have hfz74_0 := blk_frozen BK409.out 0; have hfz74_1 := blk_frozen BK409.out 1; have hfz74_2 := blk_frozen BK409.out 2; have hfz74_3 := blk_frozen BK409.out 3; have hfz74_4 := blk_frozen BK409.out 4; have hfz74_5 := blk_frozen BK409.out 5; have hfz74_6 := blk_frozen BK409.out 6; have hfz74_7 := blk_frozen BK409.out 7; have hfz74_8 := blk_frozen BK409.out 8; have hnb75 := NB357_373.out; have hnc75 := NB373_357.out; have hnb76 := NB357_384.out; have hnc76 := NB384_357.out; have hcz77_0 : w70.cell? ⟨gb357, 0, none⟩ = some (.string t348) := (blk_cell BK357.out 0).trans rfl; have hcz77_1 : w70.cell? ⟨gb357, 1, none⟩ = some (.int .i64 t349) := (blk_cell BK357.out 1).trans rfl; have hcz77_2 : w70.cell? ⟨gb357, 2, none⟩ = some (.int .i64 t350) := (blk_cell BK357.out 2).trans rfl; have hcz77_3 : w70.cell? ⟨gb357, 3, none⟩ = some (.int .i64 t351) := (blk_cell BK357.out 3).trans rfl; have hcz77_4 : w70.cell? ⟨gb357, 4, none⟩ = some (.int .i64 t352) := (blk_cell BK357.out 4).trans rfl; have hcz77_5 : w70.cell? ⟨gb357, 5, none⟩ = some (.int .i64 t353) := (blk_cell BK357.out 5).trans rfl; have hcz77_6 : w70.cell? ⟨gb357, 6, none⟩ = some (.int .i64 t354) := (blk_cell BK357.out 6).trans rfl; have hcz77_7 : w70.cell? ⟨gb357, 7, none⟩ = some (.int .i64 t355) := (blk_cell BK357.out 7).trans rfl; have hcz77_8 : w70.cell? ⟨gb357, 8, none⟩ = some (.int .i64 t356) := (blk_cell BK357.out 8).trans rfl; have hfz77_0 := blk_frozen BK357.out 0; have hfz77_1 := blk_frozen BK357.out 1; have hfz77_2 := blk_frozen BK357.out 2; have hfz77_3 := blk_frozen BK357.out 3; have hfz77_4 := blk_frozen BK357.out 4; have hfz77_5 := blk_frozen BK357.out 5; have hfz77_6 := blk_frozen BK357.out 6; have hfz77_7 := blk_frozen BK357.out 7; have hfz77_8 := blk_frozen BK357.out 8))
        go_ret
        exact ⟨by first | rfl | (simp [errW_none, errW_some] <;> rfl) | (simp [*, errW_none, errW_some] <;> rfl), by repeat (first | (with_reducible first | exact HB.out | apply lA | apply lN | apply lD | refine below_set ?_ GE357.out | refine below_set ?_ GE373.out | refine below_set ?_ GE384.out | refine below_set ?_ GE409.out) | exact HB.out)⟩
       ·
        rw [if_neg c68] at H
        have c68b0 : (t408 == 0) = false := beq_eq_false_iff_ne.mpr c68
        have c68b1 : (t408 != 0) = true := bne_iff_ne.mpr c68
        obtain rfl := Option.some.inj H
        exact absurd hr_.out (by decide)
      ·
       rw [if_neg c66] at H
       have c66b0 : (t359 == 0) = false := beq_eq_false_iff_ne.mpr c66
       have c66b1 : (t359 != 0) = true := bne_iff_ne.mpr c66
       obtain rfl := Option.some.inj H
       simp only [Option.some.injEq, Prod.mk.injEq] at H
       obtain ⟨rfl⟩ := H
       go_wp2
       go_ret
       exact ⟨by first | rfl | (simp [errW_none, errW_some] <;> rfl) | (simp [*, errW_none, errW_some] <;> rfl), by repeat (first | (with_reducible first | exact HB.out | apply lA | apply lN | apply lD | refine below_set ?_ GE357.out | refine below_set ?_ GE373.out | refine below_set ?_ GE384.out) | exact HB.out)⟩

/-- THE ONE PURE STATEMENT of laws_FnArticleTexts: yours. -/
def laws_FnArticleTexts.Pure : Prop := ∀ (l0 : List Int), l0.length ≤ maxLen → l0.length * 1 ≤ 140737488351232 → (∀ x ∈ l0, (Lit.int .u8 x).wf = true) → ∃ k, laws_FnArticleTexts.f k l0 = some true
theorem laws_FnArticleTexts.walk (P : laws_FnArticleTexts.Pure) (a0 : Option Addr) (len0 cap0 : Nat) (z0 : List Int) (w : World) (w0 : (a0 = none ∧ len0 = 0 ∧ cap0 = 0 ∧ z0 = []) ∨ ∃ x, a0 = some x ∧ len0 ≤ cap0 ∧ cap0 ≤ maxLen ∧ z0.length = cap0 ∧ (∀ i, i < z0.length → w.cell? (x.add i) = some (.int .u8 (z0.getD i 0))) ∧ ∀ n ∈ z0, (Lit.int .u8 n).wf = true) (y0 : len0 * 1 ≤ 140737488351232) :
  Calls Try.prog 4 #[.slice a0 len0 cap0] w fun e w' => e = .returned (.bool true) ∧ Below w.heap.size w w' := by
 obtain ⟨l0, rfl, hr0, hm0, hw0, hc0⟩ := ReadsInt.ofRowC w0
 obtain ⟨k, h⟩ := P l0 hm0 y0 hw0
 refine (laws_FnArticleTexts.calls k _ _ l0 true w (Kd.C_of_reads (d := (0 : Int)) (h1 := fun _ => rfl) hr0) hc0 h ⟨rfl⟩).mono ?_
 rintro e w' ⟨rfl, hd⟩
 exact ⟨rfl, hd⟩

end Go.Proofs.Ytmepklccbogibaa.QFnArticleTexts
