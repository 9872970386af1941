-- Written by a program of this project's session, after the kit's print (a turned copy of its programs). Lean checks it.
import Derived.Test.YtmepklccbogibaaQFnArticlesx0
import Derived.Test.YtmepklccbogibaaQFnArticlesx1
import Derived.Test.YtmepklccbogibaaQFnArticlesx2
import Derived.Test.YtmepklccbogibaaQFnArticlesx3
import Derived.Test.YtmepklccbogibaaQFnArticlesx4
import Derived.Test.YtmepklccbogibaaQFnArticlesx5
import Derived.Test.YtmepklccbogibaaQFnArticlesx6
import Derived.Test.YtmepklccbogibaaQFnArticlesx7
import Derived.Test.YtmepklccbogibaaQFnArticlesx8
namespace Go.Proofs.Ytmepklccbogibaa.QFnArticles
open Go.RowKit Go.Proofs.YtmepklccbogibaaW.PrintWords Go.Proofs.YtmepklccbogibaaW.PrintLast Go.Proofs.YtmepklccbogibaaW.PrintMore
attribute [local go_sem] max2_int min2_int max_two min_two max_three min_three max_four min_four   -- for this text's walks alone
set_option linter.unusedVariables false
set_option linter.unusedSimpArgs false

/-! ### laws_FnArticles: function 13 -/
mutual
def laws_FnArticles.j0 : Nat → Int → List (List Int) → Int → List (List Int) → Int → List (S26) → ByteArray → Int → Int → Bool → ByteArray → Int → Int → Int → Int → Int → Int → Int → Int → Option (Bool)
 | 0, _, _, _, _, _, _, _, _, _, _, _, _, _, _, _, _, _, _, _ => none
 | k + 1, x4, x5, x6, x7, x9, x13, x14, x15, x16, x108, x419000, x419001, x419002, x419003, x419004, x419005, x419006, x419007, x419008 => if x108 = true then (some false) else (if x16 = 0 then (if 0 ≤ x15 then (if x15 < (x13.length : Int) then (laws_FnArticles.j1 k x4 x5 x6 x7 x9 (((rd_T26 x13 x15).f0).toList != x14.toList) x419000 x419001 x419002 x419003 x419004 x419005 x419006 x419007 x419008) else (none)) else (none)) else (laws_FnArticles.j1 k x4 x5 x6 x7 x9 false x419000 x419001 x419002 x419003 x419004 x419005 x419006 x419007 x419008))
def laws_FnArticles.j1 : Nat → Int → List (List Int) → Int → List (List Int) → Int → Bool → ByteArray → Int → Int → Int → Int → Int → Int → Int → Int → Option (Bool)
 | 0, _, _, _, _, _, _, _, _, _, _, _, _, _, _, _ => none
 | k + 1, x4, x5, x6, x7, x9, x119, x419000, x419001, x419002, x419003, x419004, x419005, x419006, x419007, x419008 => if x119 = true then (some false) else (laws_FnArticles.l0 k x4 x5 x6 x7 x9 0 x419000 x419001 x419002 x419003 x419004 x419005 x419006 x419007 x419008)
def laws_FnArticles.l0 : Nat → Int → List (List Int) → Int → List (List Int) → Int → Int → ByteArray → Int → Int → Int → Int → Int → Int → Int → Int → Option (Bool)
 | 0, _, _, _, _, _, _, _, _, _, _, _, _, _, _, _ => none
 | k + 1, x4, x5, x6, x7, x9, x19, x419000, x419001, x419002, x419003, x419004, x419005, x419006, x419007, x419008 => if x6 = 0 then (laws_FnArticles.j3 k x4 x5 x6 x7 x9 x19 (decide (x19 < (x5.length : Int))) x419000 x419001 x419002 x419003 x419004 x419005 x419006 x419007 x419008) else (laws_FnArticles.j3 k x4 x5 x6 x7 x9 x19 false x419000 x419001 x419002 x419003 x419004 x419005 x419006 x419007 x419008)
def laws_FnArticles.j3 : Nat → Int → List (List Int) → Int → List (List Int) → Int → Int → Bool → ByteArray → Int → Int → Int → Int → Int → Int → Int → Int → Option (Bool)
 | 0, _, _, _, _, _, _, _, _, _, _, _, _, _, _, _, _ => none
 | k + 1, x4, x5, x6, x7, x9, x19, x127, x419000, x419001, x419002, x419003, x419004, x419005, x419006, x419007, x419008 => if x127 = true then (if 0 ≤ x19 then (if x19 < (x5.length : Int) then (if 1 < ((rd_L2 x5 x19).length : Int) then (if 0 < ((rd_L2 x5 x19).length : Int) then (if (wrap64 ((rd (rd_L2 x5 x19) 1) - (rd (rd_L2 x5 x19) 0))) = (wrap64 (2 * x419004)) then (if (rd (rd_L2 x5 x19) 0) < x4 then (some false) else (if (rd (rd_L2 x5 x19) 1) > (wrap64 (x4 + x9)) then (some false) else (laws_FnArticles.l0 k x4 x5 x6 x7 x9 (wrap64 (x19 + 1)) x419000 x419001 x419002 x419003 x419004 x419005 x419006 x419007 x419008))) else (some false)) else (none)) else (none)) else (none)) else (none)) else (if x6 = 0 then (if (x5.length : Int) = x419005 then (if 0 ≤ (wrap64 ((x5.length : Int) - 1)) then (if (wrap64 ((x5.length : Int) - 1)) < (x7.length : Int) then (if 1 < ((rd_L2 x7 (wrap64 ((x5.length : Int) - 1))).length : Int) then (some ((rd (rd_L2 x7 (wrap64 ((x5.length : Int) - 1))) 1) == (wrap64 (x4 + x9)))) else (none)) else (none)) else (none)) else (some false)) else (some true))
end
theorem j0T : ∀ (k : Nat) (v0 : Int) (v1 : List (List Int)) (v2 : Int) (v3 : List (List Int)) (v4 : Int) (v5 : List (S26)) (v6 : ByteArray) (v7 : Int) (v8 : Int) (v10 : ByteArray) (v11 : Int) (v12 : Int) (v13 : Int) (v14 : Int) (v15 : Int) (v16 : Int) (v17 : Int) (v18 : Int), laws_FnArticles.j0 k v0 v1 v2 v3 v4 v5 v6 v7 v8 true v10 v11 v12 v13 v14 v15 v16 v17 v18 ≠ some true := by
  intro k v0 v1 v2 v3 v4 v5 v6 v7 v8 v10 v11 v12 v13 v14 v15 v16 v17 v18
  cases k <;> simp [laws_FnArticles.j0]
theorem j1T : ∀ (k : Nat) (v0 : Int) (v1 : List (List Int)) (v2 : Int) (v3 : List (List Int)) (v4 : Int) (v6 : ByteArray) (v7 : Int) (v8 : Int) (v9 : Int) (v10 : Int) (v11 : Int) (v12 : Int) (v13 : Int) (v14 : Int), laws_FnArticles.j1 k v0 v1 v2 v3 v4 true v6 v7 v8 v9 v10 v11 v12 v13 v14 ≠ some true := by
  intro k v0 v1 v2 v3 v4 v6 v7 v8 v9 v10 v11 v12 v13 v14
  cases k <;> simp [laws_FnArticles.j1]
def laws_FnArticles.f (k : Nat) (l0 : List Int) : Option (Bool) := (laws_big.f l0).bind fun t407 => (if t407 = true then (some true) else ((spec_DrawShotWindows.f k l0).bind fun bt408 => ((impl_ShotWindows.f k bt408.1 bt408.2.1 bt408.2.2.1 bt408.2.2.2.1 bt408.2.2.2.2.1 bt408.2.2.2.2.2.1 bt408.2.2.2.2.2.2.1 bt408.2.2.2.2.2.2.2.1 bt408.2.2.2.2.2.2.2.2.1 bt408.2.2.2.2.2.2.2.2.2).bind fun bt419 => ((spec_ShotWindows.f k bt408.1 bt408.2.1 bt408.2.2.1 bt408.2.2.2.1 bt408.2.2.2.2.1 bt408.2.2.2.2.2.1 bt408.2.2.2.2.2.2.1 bt408.2.2.2.2.2.2.2.1 bt408.2.2.2.2.2.2.2.2.1 bt408.2.2.2.2.2.2.2.2.2).bind fun bt423 => ((impl_LengthOf.f k bt408.1 bt408.2.1 bt408.2.2.1 bt408.2.2.2.1 bt408.2.2.2.2.1 bt408.2.2.2.2.2.1 bt408.2.2.2.2.2.2.1 bt408.2.2.2.2.2.2.2.1 bt408.2.2.2.2.2.2.2.2.1).bind fun bt427 => ((spec_LengthOf.f k bt408.1 bt408.2.1 bt408.2.2.1 bt408.2.2.2.1 bt408.2.2.2.2.1 bt408.2.2.2.2.2.1 bt408.2.2.2.2.2.2.1 bt408.2.2.2.2.2.2.2.1 bt408.2.2.2.2.2.2.2.2.1).bind fun bt429 => ((spec_DrawFindArticle.f k l0).bind fun bt431 => ((impl_FindArticle.f k bt431.1 bt431.2).bind fun bt435 => ((spec_FindArticle.f k bt431.1 bt431.2).bind fun bt437 => (if bt419.2 = bt423.2 then ((laws_likeRows.f k bt419.1 bt423.1).bind fun t439 => (if t439 = true then (if bt427.2 = bt429.2 then (if bt427.1 = bt429.1 then (if bt435.2 = bt437.2 then (if bt435.1 = bt437.1 then ((impl_IsArticle.f k bt408.1 bt408.2.1 bt408.2.2.1 bt408.2.2.2.1 bt408.2.2.2.2.1 bt408.2.2.2.2.2.1 bt408.2.2.2.2.2.2.1 bt408.2.2.2.2.2.2.2.1 bt408.2.2.2.2.2.2.2.2.1).bind fun t440 => (if (t440 != (bt429.2 == 0)) = true then (laws_FnArticles.j0 k bt408.2.2.2.2.2.2.2.2.2 bt419.1 bt419.2 bt423.1 bt427.1 bt431.1 bt431.2 bt435.1 bt435.2 true bt408.1 bt408.2.1 bt408.2.2.1 bt408.2.2.2.1 bt408.2.2.2.2.1 bt408.2.2.2.2.2.1 bt408.2.2.2.2.2.2.1 bt408.2.2.2.2.2.2.2.1 bt408.2.2.2.2.2.2.2.2.1) else ((impl_AreArticles.f k bt431.1).bind fun t441 => ((spec_AreArticles.f k bt431.1).bind fun t442 => (laws_FnArticles.j0 k bt408.2.2.2.2.2.2.2.2.2 bt419.1 bt419.2 bt423.1 bt427.1 bt431.1 bt431.2 bt435.1 bt435.2 (t441 != t442) bt408.1 bt408.2.1 bt408.2.2.1 bt408.2.2.2.1 bt408.2.2.2.2.1 bt408.2.2.2.2.2.1 bt408.2.2.2.2.2.2.1 bt408.2.2.2.2.2.2.2.1 bt408.2.2.2.2.2.2.2.2.1))))) else (laws_FnArticles.j0 k bt408.2.2.2.2.2.2.2.2.2 bt419.1 bt419.2 bt423.1 bt427.1 bt431.1 bt431.2 bt435.1 bt435.2 true bt408.1 bt408.2.1 bt408.2.2.1 bt408.2.2.2.1 bt408.2.2.2.2.1 bt408.2.2.2.2.2.1 bt408.2.2.2.2.2.2.1 bt408.2.2.2.2.2.2.2.1 bt408.2.2.2.2.2.2.2.2.1)) else (laws_FnArticles.j0 k bt408.2.2.2.2.2.2.2.2.2 bt419.1 bt419.2 bt423.1 bt427.1 bt431.1 bt431.2 bt435.1 bt435.2 true bt408.1 bt408.2.1 bt408.2.2.1 bt408.2.2.2.1 bt408.2.2.2.2.1 bt408.2.2.2.2.2.1 bt408.2.2.2.2.2.2.1 bt408.2.2.2.2.2.2.2.1 bt408.2.2.2.2.2.2.2.2.1)) else (laws_FnArticles.j0 k bt408.2.2.2.2.2.2.2.2.2 bt419.1 bt419.2 bt423.1 bt427.1 bt431.1 bt431.2 bt435.1 bt435.2 true bt408.1 bt408.2.1 bt408.2.2.1 bt408.2.2.2.1 bt408.2.2.2.2.1 bt408.2.2.2.2.2.1 bt408.2.2.2.2.2.2.1 bt408.2.2.2.2.2.2.2.1 bt408.2.2.2.2.2.2.2.2.1)) else (laws_FnArticles.j0 k bt408.2.2.2.2.2.2.2.2.2 bt419.1 bt419.2 bt423.1 bt427.1 bt431.1 bt431.2 bt435.1 bt435.2 true bt408.1 bt408.2.1 bt408.2.2.1 bt408.2.2.2.1 bt408.2.2.2.2.1 bt408.2.2.2.2.2.1 bt408.2.2.2.2.2.2.1 bt408.2.2.2.2.2.2.2.1 bt408.2.2.2.2.2.2.2.2.1)) else (laws_FnArticles.j0 k bt408.2.2.2.2.2.2.2.2.2 bt419.1 bt419.2 bt423.1 bt427.1 bt431.1 bt431.2 bt435.1 bt435.2 true bt408.1 bt408.2.1 bt408.2.2.1 bt408.2.2.2.1 bt408.2.2.2.2.1 bt408.2.2.2.2.2.1 bt408.2.2.2.2.2.2.1 bt408.2.2.2.2.2.2.2.1 bt408.2.2.2.2.2.2.2.2.1))) else (laws_FnArticles.j0 k bt408.2.2.2.2.2.2.2.2.2 bt419.1 bt419.2 bt423.1 bt427.1 bt431.1 bt431.2 bt435.1 bt435.2 true bt408.1 bt408.2.1 bt408.2.2.1 bt408.2.2.2.1 bt408.2.2.2.2.1 bt408.2.2.2.2.2.1 bt408.2.2.2.2.2.2.1 bt408.2.2.2.2.2.2.2.1 bt408.2.2.2.2.2.2.2.2.1)))))))))))
theorem laws_FnArticles.mono_l : ∀ k, (∀ y0 y1 y2 y3 y4 y5 y6 y7 y8 y9 y10 y11 y12 y13 y14 y15 y16 y17 y18, LeO (laws_FnArticles.j0 k y0 y1 y2 y3 y4 y5 y6 y7 y8 y9 y10 y11 y12 y13 y14 y15 y16 y17 y18) (laws_FnArticles.j0 (k + 1) y0 y1 y2 y3 y4 y5 y6 y7 y8 y9 y10 y11 y12 y13 y14 y15 y16 y17 y18)) ∧ (∀ y0 y1 y2 y3 y4 y5 y6 y7 y8 y9 y10 y11 y12 y13 y14, LeO (laws_FnArticles.j1 k y0 y1 y2 y3 y4 y5 y6 y7 y8 y9 y10 y11 y12 y13 y14) (laws_FnArticles.j1 (k + 1) y0 y1 y2 y3 y4 y5 y6 y7 y8 y9 y10 y11 y12 y13 y14)) ∧ (∀ y0 y1 y2 y3 y4 y5 y6 y7 y8 y9 y10 y11 y12 y13 y14, LeO (laws_FnArticles.l0 k y0 y1 y2 y3 y4 y5 y6 y7 y8 y9 y10 y11 y12 y13 y14) (laws_FnArticles.l0 (k + 1) y0 y1 y2 y3 y4 y5 y6 y7 y8 y9 y10 y11 y12 y13 y14)) ∧ (∀ y0 y1 y2 y3 y4 y5 y6 y7 y8 y9 y10 y11 y12 y13 y14 y15, LeO (laws_FnArticles.j3 k y0 y1 y2 y3 y4 y5 y6 y7 y8 y9 y10 y11 y12 y13 y14 y15) (laws_FnArticles.j3 (k + 1) y0 y1 y2 y3 y4 y5 y6 y7 y8 y9 y10 y11 y12 y13 y14 y15))
 | 0 => ⟨fun _ _ _ _ _ _ _ _ _ _ _ _ _ _ _ _ _ _ _ r h => by simp [laws_FnArticles.j0] at h, fun _ _ _ _ _ _ _ _ _ _ _ _ _ _ _ r h => by simp [laws_FnArticles.j1] at h, fun _ _ _ _ _ _ _ _ _ _ _ _ _ _ _ r h => by simp [laws_FnArticles.l0] at h, fun _ _ _ _ _ _ _ _ _ _ _ _ _ _ _ _ r h => by simp [laws_FnArticles.j3] at h⟩
 | k + 1 => by
  obtain ⟨ih0, ih1, ih2, ih3⟩ := laws_FnArticles.mono_l k
  refine ⟨?_, ?_, ?_, ?_⟩
  ·
   intro y0 y1 y2 y3 y4 y5 y6 y7 y8 y9 y10 y11 y12 y13 y14 y15 y16 y17 y18
   unfold laws_FnArticles.j0
   repeat' first
   | (with_reducible exact ih0 _ _ _ _ _ _ _ _ _ _ _ _ _ _ _ _ _ _ _)
   | (with_reducible exact ih1 _ _ _ _ _ _ _ _ _ _ _ _ _ _ _)
   | (with_reducible exact ih2 _ _ _ _ _ _ _ _ _ _ _ _ _ _ _)
   | (with_reducible exact ih3 _ _ _ _ _ _ _ _ _ _ _ _ _ _ _ _)
   | (with_reducible exact impl_AreArticles.mono _ _)
   | (with_reducible exact impl_FindArticle.mono _ _ _)
   | (with_reducible exact impl_IsArticle.mono _ _ _ _ _ _ _ _ _ _)
   | (with_reducible exact impl_LengthOf.mono _ _ _ _ _ _ _ _ _ _)
   | (with_reducible exact impl_ShotWindows.mono _ _ _ _ _ _ _ _ _ _ _)
   | (with_reducible exact laws_likeRows.mono _ _ _)
   | (with_reducible exact spec_AreArticles.mono _ _)
   | (with_reducible exact spec_DrawFindArticle.mono _ _)
   | (with_reducible exact spec_DrawShotWindows.mono _ _)
   | (with_reducible exact spec_FindArticle.mono _ _ _)
   | (with_reducible exact spec_LengthOf.mono _ _ _ _ _ _ _ _ _ _)
   | (with_reducible exact spec_ShotWindows.mono _ _ _ _ _ _ _ _ _ _ _)
   | (with_reducible exact LeO.refl _)
   | (with_reducible exact LeO.none _)
   | (with_reducible refine LeO.ite ?_ ?_)
   | (with_reducible refine LeO.bind ?_ (fun _ => ?_))
   | exact ih0 _ _ _ _ _ _ _ _ _ _ _ _ _ _ _ _ _ _ _
   | exact ih1 _ _ _ _ _ _ _ _ _ _ _ _ _ _ _
   | exact ih2 _ _ _ _ _ _ _ _ _ _ _ _ _ _ _
   | exact ih3 _ _ _ _ _ _ _ _ _ _ _ _ _ _ _ _
   | exact impl_AreArticles.mono _ _
   | exact impl_FindArticle.mono _ _ _
   | exact impl_IsArticle.mono _ _ _ _ _ _ _ _ _ _
   | exact impl_LengthOf.mono _ _ _ _ _ _ _ _ _ _
   | exact impl_ShotWindows.mono _ _ _ _ _ _ _ _ _ _ _
   | exact laws_likeRows.mono _ _ _
   | exact spec_AreArticles.mono _ _
   | exact spec_DrawFindArticle.mono _ _
   | exact spec_DrawShotWindows.mono _ _
   | exact spec_FindArticle.mono _ _ _
   | exact spec_LengthOf.mono _ _ _ _ _ _ _ _ _ _
   | exact spec_ShotWindows.mono _ _ _ _ _ _ _ _ _ _ _
   | exact LeO.none _
   | refine LeO.ite ?_ ?_
   | refine LeO.bind ?_ (fun _ => ?_)
  ·
   intro y0 y1 y2 y3 y4 y5 y6 y7 y8 y9 y10 y11 y12 y13 y14
   unfold laws_FnArticles.j1
   repeat' first
   | (with_reducible exact ih0 _ _ _ _ _ _ _ _ _ _ _ _ _ _ _ _ _ _ _)
   | (with_reducible exact ih1 _ _ _ _ _ _ _ _ _ _ _ _ _ _ _)
   | (with_reducible exact ih2 _ _ _ _ _ _ _ _ _ _ _ _ _ _ _)
   | (with_reducible exact ih3 _ _ _ _ _ _ _ _ _ _ _ _ _ _ _ _)
   | (with_reducible exact impl_AreArticles.mono _ _)
   | (with_reducible exact impl_FindArticle.mono _ _ _)
   | (with_reducible exact impl_IsArticle.mono _ _ _ _ _ _ _ _ _ _)
   | (with_reducible exact impl_LengthOf.mono _ _ _ _ _ _ _ _ _ _)
   | (with_reducible exact impl_ShotWindows.mono _ _ _ _ _ _ _ _ _ _ _)
   | (with_reducible exact laws_likeRows.mono _ _ _)
   | (with_reducible exact spec_AreArticles.mono _ _)
   | (with_reducible exact spec_DrawFindArticle.mono _ _)
   | (with_reducible exact spec_DrawShotWindows.mono _ _)
   | (with_reducible exact spec_FindArticle.mono _ _ _)
   | (with_reducible exact spec_LengthOf.mono _ _ _ _ _ _ _ _ _ _)
   | (with_reducible exact spec_ShotWindows.mono _ _ _ _ _ _ _ _ _ _ _)
   | (with_reducible exact LeO.refl _)
   | (with_reducible exact LeO.none _)
   | (with_reducible refine LeO.ite ?_ ?_)
   | (with_reducible refine LeO.bind ?_ (fun _ => ?_))
   | exact ih0 _ _ _ _ _ _ _ _ _ _ _ _ _ _ _ _ _ _ _
   | exact ih1 _ _ _ _ _ _ _ _ _ _ _ _ _ _ _
   | exact ih2 _ _ _ _ _ _ _ _ _ _ _ _ _ _ _
   | exact ih3 _ _ _ _ _ _ _ _ _ _ _ _ _ _ _ _
   | exact impl_AreArticles.mono _ _
   | exact impl_FindArticle.mono _ _ _
   | exact impl_IsArticle.mono _ _ _ _ _ _ _ _ _ _
   | exact impl_LengthOf.mono _ _ _ _ _ _ _ _ _ _
   | exact impl_ShotWindows.mono _ _ _ _ _ _ _ _ _ _ _
   | exact laws_likeRows.mono _ _ _
   | exact spec_AreArticles.mono _ _
   | exact spec_DrawFindArticle.mono _ _
   | exact spec_DrawShotWindows.mono _ _
   | exact spec_FindArticle.mono _ _ _
   | exact spec_LengthOf.mono _ _ _ _ _ _ _ _ _ _
   | exact spec_ShotWindows.mono _ _ _ _ _ _ _ _ _ _ _
   | exact LeO.none _
   | refine LeO.ite ?_ ?_
   | refine LeO.bind ?_ (fun _ => ?_)
  ·
   intro y0 y1 y2 y3 y4 y5 y6 y7 y8 y9 y10 y11 y12 y13 y14
   unfold laws_FnArticles.l0
   repeat' first
   | (with_reducible exact ih0 _ _ _ _ _ _ _ _ _ _ _ _ _ _ _ _ _ _ _)
   | (with_reducible exact ih1 _ _ _ _ _ _ _ _ _ _ _ _ _ _ _)
   | (with_reducible exact ih2 _ _ _ _ _ _ _ _ _ _ _ _ _ _ _)
   | (with_reducible exact ih3 _ _ _ _ _ _ _ _ _ _ _ _ _ _ _ _)
   | (with_reducible exact impl_AreArticles.mono _ _)
   | (with_reducible exact impl_FindArticle.mono _ _ _)
   | (with_reducible exact impl_IsArticle.mono _ _ _ _ _ _ _ _ _ _)
   | (with_reducible exact impl_LengthOf.mono _ _ _ _ _ _ _ _ _ _)
   | (with_reducible exact impl_ShotWindows.mono _ _ _ _ _ _ _ _ _ _ _)
   | (with_reducible exact laws_likeRows.mono _ _ _)
   | (with_reducible exact spec_AreArticles.mono _ _)
   | (with_reducible exact spec_DrawFindArticle.mono _ _)
   | (with_reducible exact spec_DrawShotWindows.mono _ _)
   | (with_reducible exact spec_FindArticle.mono _ _ _)
   | (with_reducible exact spec_LengthOf.mono _ _ _ _ _ _ _ _ _ _)
   | (with_reducible exact spec_ShotWindows.mono _ _ _ _ _ _ _ _ _ _ _)
   | (with_reducible exact LeO.refl _)
   | (with_reducible exact LeO.none _)
   | (with_reducible refine LeO.ite ?_ ?_)
   | (with_reducible refine LeO.bind ?_ (fun _ => ?_))
   | exact ih0 _ _ _ _ _ _ _ _ _ _ _ _ _ _ _ _ _ _ _
   | exact ih1 _ _ _ _ _ _ _ _ _ _ _ _ _ _ _
   | exact ih2 _ _ _ _ _ _ _ _ _ _ _ _ _ _ _
   | exact ih3 _ _ _ _ _ _ _ _ _ _ _ _ _ _ _ _
   | exact impl_AreArticles.mono _ _
   | exact impl_FindArticle.mono _ _ _
   | exact impl_IsArticle.mono _ _ _ _ _ _ _ _ _ _
   | exact impl_LengthOf.mono _ _ _ _ _ _ _ _ _ _
   | exact impl_ShotWindows.mono _ _ _ _ _ _ _ _ _ _ _
   | exact laws_likeRows.mono _ _ _
   | exact spec_AreArticles.mono _ _
   | exact spec_DrawFindArticle.mono _ _
   | exact spec_DrawShotWindows.mono _ _
   | exact spec_FindArticle.mono _ _ _
   | exact spec_LengthOf.mono _ _ _ _ _ _ _ _ _ _
   | exact spec_ShotWindows.mono _ _ _ _ _ _ _ _ _ _ _
   | exact LeO.none _
   | refine LeO.ite ?_ ?_
   | refine LeO.bind ?_ (fun _ => ?_)
  ·
   intro y0 y1 y2 y3 y4 y5 y6 y7 y8 y9 y10 y11 y12 y13 y14 y15
   unfold laws_FnArticles.j3
   repeat' first
   | (with_reducible exact ih0 _ _ _ _ _ _ _ _ _ _ _ _ _ _ _ _ _ _ _)
   | (with_reducible exact ih1 _ _ _ _ _ _ _ _ _ _ _ _ _ _ _)
   | (with_reducible exact ih2 _ _ _ _ _ _ _ _ _ _ _ _ _ _ _)
   | (with_reducible exact ih3 _ _ _ _ _ _ _ _ _ _ _ _ _ _ _ _)
   | (with_reducible exact impl_AreArticles.mono _ _)
   | (with_reducible exact impl_FindArticle.mono _ _ _)
   | (with_reducible exact impl_IsArticle.mono _ _ _ _ _ _ _ _ _ _)
   | (with_reducible exact impl_LengthOf.mono _ _ _ _ _ _ _ _ _ _)
   | (with_reducible exact impl_ShotWindows.mono _ _ _ _ _ _ _ _ _ _ _)
   | (with_reducible exact laws_likeRows.mono _ _ _)
   | (with_reducible exact spec_AreArticles.mono _ _)
   | (with_reducible exact spec_DrawFindArticle.mono _ _)
   | (with_reducible exact spec_DrawShotWindows.mono _ _)
   | (with_reducible exact spec_FindArticle.mono _ _ _)
   | (with_reducible exact spec_LengthOf.mono _ _ _ _ _ _ _ _ _ _)
   | (with_reducible exact spec_ShotWindows.mono _ _ _ _ _ _ _ _ _ _ _)
   | (with_reducible exact LeO.refl _)
   | (with_reducible exact LeO.none _)
   | (with_reducible refine LeO.ite ?_ ?_)
   | (with_reducible refine LeO.bind ?_ (fun _ => ?_))
   | exact ih0 _ _ _ _ _ _ _ _ _ _ _ _ _ _ _ _ _ _ _
   | exact ih1 _ _ _ _ _ _ _ _ _ _ _ _ _ _ _
   | exact ih2 _ _ _ _ _ _ _ _ _ _ _ _ _ _ _
   | exact ih3 _ _ _ _ _ _ _ _ _ _ _ _ _ _ _ _
   | exact impl_AreArticles.mono _ _
   | exact impl_FindArticle.mono _ _ _
   | exact impl_IsArticle.mono _ _ _ _ _ _ _ _ _ _
   | exact impl_LengthOf.mono _ _ _ _ _ _ _ _ _ _
   | exact impl_ShotWindows.mono _ _ _ _ _ _ _ _ _ _ _
   | exact laws_likeRows.mono _ _ _
   | exact spec_AreArticles.mono _ _
   | exact spec_DrawFindArticle.mono _ _
   | exact spec_DrawShotWindows.mono _ _
   | exact spec_FindArticle.mono _ _ _
   | exact spec_LengthOf.mono _ _ _ _ _ _ _ _ _ _
   | exact spec_ShotWindows.mono _ _ _ _ _ _ _ _ _ _ _
   | exact LeO.none _
   | refine LeO.ite ?_ ?_
   | refine LeO.bind ?_ (fun _ => ?_)
theorem laws_FnArticles.mono : ∀ a0 k, LeO (laws_FnArticles.f k a0) (laws_FnArticles.f (k + 1) a0) := by
 intro a0 k
 obtain ⟨ih0, ih1, ih2, ih3⟩ := laws_FnArticles.mono_l k
 unfold laws_FnArticles.f
 repeat' first
   | (with_reducible exact ih0 _ _ _ _ _ _ _ _ _ _ _ _ _ _ _ _ _ _ _)
   | (with_reducible exact ih1 _ _ _ _ _ _ _ _ _ _ _ _ _ _ _)
   | (with_reducible exact ih2 _ _ _ _ _ _ _ _ _ _ _ _ _ _ _)
   | (with_reducible exact ih3 _ _ _ _ _ _ _ _ _ _ _ _ _ _ _ _)
   | (with_reducible exact impl_AreArticles.mono _ _)
   | (with_reducible exact impl_FindArticle.mono _ _ _)
   | (with_reducible exact impl_IsArticle.mono _ _ _ _ _ _ _ _ _ _)
   | (with_reducible exact impl_LengthOf.mono _ _ _ _ _ _ _ _ _ _)
   | (with_reducible exact impl_ShotWindows.mono _ _ _ _ _ _ _ _ _ _ _)
   | (with_reducible exact laws_likeRows.mono _ _ _)
   | (with_reducible exact spec_AreArticles.mono _ _)
   | (with_reducible exact spec_DrawFindArticle.mono _ _)
   | (with_reducible exact spec_DrawShotWindows.mono _ _)
   | (with_reducible exact spec_FindArticle.mono _ _ _)
   | (with_reducible exact spec_LengthOf.mono _ _ _ _ _ _ _ _ _ _)
   | (with_reducible exact spec_ShotWindows.mono _ _ _ _ _ _ _ _ _ _ _)
   | (with_reducible exact LeO.refl _)
   | (with_reducible exact LeO.none _)
   | (with_reducible refine LeO.ite ?_ ?_)
   | (with_reducible refine LeO.bind ?_ (fun _ => ?_))
   | exact ih0 _ _ _ _ _ _ _ _ _ _ _ _ _ _ _ _ _ _ _
   | exact ih1 _ _ _ _ _ _ _ _ _ _ _ _ _ _ _
   | exact ih2 _ _ _ _ _ _ _ _ _ _ _ _ _ _ _
   | exact ih3 _ _ _ _ _ _ _ _ _ _ _ _ _ _ _ _
   | exact impl_AreArticles.mono _ _
   | exact impl_FindArticle.mono _ _ _
   | exact impl_IsArticle.mono _ _ _ _ _ _ _ _ _ _
   | exact impl_LengthOf.mono _ _ _ _ _ _ _ _ _ _
   | exact impl_ShotWindows.mono _ _ _ _ _ _ _ _ _ _ _
   | exact laws_likeRows.mono _ _ _
   | exact spec_AreArticles.mono _ _
   | exact spec_DrawFindArticle.mono _ _
   | exact spec_DrawShotWindows.mono _ _
   | exact spec_FindArticle.mono _ _ _
   | exact spec_LengthOf.mono _ _ _ _ _ _ _ _ _ _
   | exact spec_ShotWindows.mono _ _ _ _ _ _ _ _ _ _ _
   | exact LeO.none _
   | refine LeO.ite ?_ ?_
   | refine LeO.bind ?_ (fun _ => ?_)
set_option maxHeartbeats 40000000 in
set_option maxRecDepth 100000 in
theorem laws_FnArticles.calls (k : Nat) (A0 : Option Addr) (c0 : Nat) (l0 : List Int) (r : Bool) (w : World) (hr0 : Kd.C (Kd.int .u8) w A0 l0.length l0) (hc0 : l0.length ≤ c0) (h : laws_FnArticles.f k l0 = some r) (hr_ : Aside0 (r = true)) :
  Calls Try.prog 13 #[.slice A0 l0.length c0] w fun e w' => e = .returned (.bool r) ∧ Below w.heap.size w w' := by
 have hu26 := Try.underlying26
 have HR0 := Aside0.mk hr0
 have HC0 := Aside0.mk hc0
 clear hr0 hc0
 have HB := Aside0.mk (Below.refl w.heap.size w)
 have H : ((laws_big.f l0).bind fun t407 => (if t407 = true then (some true) else ((spec_DrawShotWindows.f k l0).bind fun bt408 => ((impl_ShotWindows.f k bt408.1 bt408.2.1 bt408.2.2.1 bt408.2.2.2.1 bt408.2.2.2.2.1 bt408.2.2.2.2.2.1 bt408.2.2.2.2.2.2.1 bt408.2.2.2.2.2.2.2.1 bt408.2.2.2.2.2.2.2.2.1 bt408.2.2.2.2.2.2.2.2.2).bind fun bt419 => ((spec_ShotWindows.f k bt408.1 bt408.2.1 bt408.2.2.1 bt408.2.2.2.1 bt408.2.2.2.2.1 bt408.2.2.2.2.2.1 bt408.2.2.2.2.2.2.1 bt408.2.2.2.2.2.2.2.1 bt408.2.2.2.2.2.2.2.2.1 bt408.2.2.2.2.2.2.2.2.2).bind fun bt423 => ((impl_LengthOf.f k bt408.1 bt408.2.1 bt408.2.2.1 bt408.2.2.2.1 bt408.2.2.2.2.1 bt408.2.2.2.2.2.1 bt408.2.2.2.2.2.2.1 bt408.2.2.2.2.2.2.2.1 bt408.2.2.2.2.2.2.2.2.1).bind fun bt427 => ((spec_LengthOf.f k bt408.1 bt408.2.1 bt408.2.2.1 bt408.2.2.2.1 bt408.2.2.2.2.1 bt408.2.2.2.2.2.1 bt408.2.2.2.2.2.2.1 bt408.2.2.2.2.2.2.2.1 bt408.2.2.2.2.2.2.2.2.1).bind fun bt429 => ((spec_DrawFindArticle.f k l0).bind fun bt431 => ((impl_FindArticle.f k bt431.1 bt431.2).bind fun bt435 => ((spec_FindArticle.f k bt431.1 bt431.2).bind fun bt437 => (if bt419.2 = bt423.2 then ((laws_likeRows.f k bt419.1 bt423.1).bind fun t439 => (if t439 = true then (if bt427.2 = bt429.2 then (if bt427.1 = bt429.1 then (if bt435.2 = bt437.2 then (if bt435.1 = bt437.1 then ((impl_IsArticle.f k bt408.1 bt408.2.1 bt408.2.2.1 bt408.2.2.2.1 bt408.2.2.2.2.1 bt408.2.2.2.2.2.1 bt408.2.2.2.2.2.2.1 bt408.2.2.2.2.2.2.2.1 bt408.2.2.2.2.2.2.2.2.1).bind fun t440 => (if (t440 != (bt429.2 == 0)) = true then (laws_FnArticles.j0 k bt408.2.2.2.2.2.2.2.2.2 bt419.1 bt419.2 bt423.1 bt427.1 bt431.1 bt431.2 bt435.1 bt435.2 true bt408.1 bt408.2.1 bt408.2.2.1 bt408.2.2.2.1 bt408.2.2.2.2.1 bt408.2.2.2.2.2.1 bt408.2.2.2.2.2.2.1 bt408.2.2.2.2.2.2.2.1 bt408.2.2.2.2.2.2.2.2.1) else ((impl_AreArticles.f k bt431.1).bind fun t441 => ((spec_AreArticles.f k bt431.1).bind fun t442 => (laws_FnArticles.j0 k bt408.2.2.2.2.2.2.2.2.2 bt419.1 bt419.2 bt423.1 bt427.1 bt431.1 bt431.2 bt435.1 bt435.2 (t441 != t442) bt408.1 bt408.2.1 bt408.2.2.1 bt408.2.2.2.1 bt408.2.2.2.2.1 bt408.2.2.2.2.2.1 bt408.2.2.2.2.2.2.1 bt408.2.2.2.2.2.2.2.1 bt408.2.2.2.2.2.2.2.2.1))))) else (laws_FnArticles.j0 k bt408.2.2.2.2.2.2.2.2.2 bt419.1 bt419.2 bt423.1 bt427.1 bt431.1 bt431.2 bt435.1 bt435.2 true bt408.1 bt408.2.1 bt408.2.2.1 bt408.2.2.2.1 bt408.2.2.2.2.1 bt408.2.2.2.2.2.1 bt408.2.2.2.2.2.2.1 bt408.2.2.2.2.2.2.2.1 bt408.2.2.2.2.2.2.2.2.1)) else (laws_FnArticles.j0 k bt408.2.2.2.2.2.2.2.2.2 bt419.1 bt419.2 bt423.1 bt427.1 bt431.1 bt431.2 bt435.1 bt435.2 true bt408.1 bt408.2.1 bt408.2.2.1 bt408.2.2.2.1 bt408.2.2.2.2.1 bt408.2.2.2.2.2.1 bt408.2.2.2.2.2.2.1 bt408.2.2.2.2.2.2.2.1 bt408.2.2.2.2.2.2.2.2.1)) else (laws_FnArticles.j0 k bt408.2.2.2.2.2.2.2.2.2 bt419.1 bt419.2 bt423.1 bt427.1 bt431.1 bt431.2 bt435.1 bt435.2 true bt408.1 bt408.2.1 bt408.2.2.1 bt408.2.2.2.1 bt408.2.2.2.2.1 bt408.2.2.2.2.2.1 bt408.2.2.2.2.2.2.1 bt408.2.2.2.2.2.2.2.1 bt408.2.2.2.2.2.2.2.2.1)) else (laws_FnArticles.j0 k bt408.2.2.2.2.2.2.2.2.2 bt419.1 bt419.2 bt423.1 bt427.1 bt431.1 bt431.2 bt435.1 bt435.2 true bt408.1 bt408.2.1 bt408.2.2.1 bt408.2.2.2.1 bt408.2.2.2.2.1 bt408.2.2.2.2.2.1 bt408.2.2.2.2.2.2.1 bt408.2.2.2.2.2.2.2.1 bt408.2.2.2.2.2.2.2.2.1)) else (laws_FnArticles.j0 k bt408.2.2.2.2.2.2.2.2.2 bt419.1 bt419.2 bt423.1 bt427.1 bt431.1 bt431.2 bt435.1 bt435.2 true bt408.1 bt408.2.1 bt408.2.2.1 bt408.2.2.2.1 bt408.2.2.2.2.1 bt408.2.2.2.2.2.1 bt408.2.2.2.2.2.2.1 bt408.2.2.2.2.2.2.2.1 bt408.2.2.2.2.2.2.2.2.1))) else (laws_FnArticles.j0 k bt408.2.2.2.2.2.2.2.2.2 bt419.1 bt419.2 bt423.1 bt427.1 bt431.1 bt431.2 bt435.1 bt435.2 true bt408.1 bt408.2.1 bt408.2.2.1 bt408.2.2.2.1 bt408.2.2.2.2.1 bt408.2.2.2.2.2.1 bt408.2.2.2.2.2.2.1 bt408.2.2.2.2.2.2.2.1 bt408.2.2.2.2.2.2.2.2.1)))))))))))) = some r := h
 clear h
 replace H := Option.bind_eq_some_iff.mp H
 obtain ⟨t407, A20, H⟩ := H
 replace H : (if t407 = true then (some true) else ((spec_DrawShotWindows.f k l0).bind fun bt408 => ((impl_ShotWindows.f k bt408.1 bt408.2.1 bt408.2.2.1 bt408.2.2.2.1 bt408.2.2.2.2.1 bt408.2.2.2.2.2.1 bt408.2.2.2.2.2.2.1 bt408.2.2.2.2.2.2.2.1 bt408.2.2.2.2.2.2.2.2.1 bt408.2.2.2.2.2.2.2.2.2).bind fun bt419 => ((spec_ShotWindows.f k bt408.1 bt408.2.1 bt408.2.2.1 bt408.2.2.2.1 bt408.2.2.2.2.1 bt408.2.2.2.2.2.1 bt408.2.2.2.2.2.2.1 bt408.2.2.2.2.2.2.2.1 bt408.2.2.2.2.2.2.2.2.1 bt408.2.2.2.2.2.2.2.2.2).bind fun bt423 => ((impl_LengthOf.f k bt408.1 bt408.2.1 bt408.2.2.1 bt408.2.2.2.1 bt408.2.2.2.2.1 bt408.2.2.2.2.2.1 bt408.2.2.2.2.2.2.1 bt408.2.2.2.2.2.2.2.1 bt408.2.2.2.2.2.2.2.2.1).bind fun bt427 => ((spec_LengthOf.f k bt408.1 bt408.2.1 bt408.2.2.1 bt408.2.2.2.1 bt408.2.2.2.2.1 bt408.2.2.2.2.2.1 bt408.2.2.2.2.2.2.1 bt408.2.2.2.2.2.2.2.1 bt408.2.2.2.2.2.2.2.2.1).bind fun bt429 => ((spec_DrawFindArticle.f k l0).bind fun bt431 => ((impl_FindArticle.f k bt431.1 bt431.2).bind fun bt435 => ((spec_FindArticle.f k bt431.1 bt431.2).bind fun bt437 => (if bt419.2 = bt423.2 then ((laws_likeRows.f k bt419.1 bt423.1).bind fun t439 => (if t439 = true then (if bt427.2 = bt429.2 then (if bt427.1 = bt429.1 then (if bt435.2 = bt437.2 then (if bt435.1 = bt437.1 then ((impl_IsArticle.f k bt408.1 bt408.2.1 bt408.2.2.1 bt408.2.2.2.1 bt408.2.2.2.2.1 bt408.2.2.2.2.2.1 bt408.2.2.2.2.2.2.1 bt408.2.2.2.2.2.2.2.1 bt408.2.2.2.2.2.2.2.2.1).bind fun t440 => (if (t440 != (bt429.2 == 0)) = true then (laws_FnArticles.j0 k bt408.2.2.2.2.2.2.2.2.2 bt419.1 bt419.2 bt423.1 bt427.1 bt431.1 bt431.2 bt435.1 bt435.2 true bt408.1 bt408.2.1 bt408.2.2.1 bt408.2.2.2.1 bt408.2.2.2.2.1 bt408.2.2.2.2.2.1 bt408.2.2.2.2.2.2.1 bt408.2.2.2.2.2.2.2.1 bt408.2.2.2.2.2.2.2.2.1) else ((impl_AreArticles.f k bt431.1).bind fun t441 => ((spec_AreArticles.f k bt431.1).bind fun t442 => (laws_FnArticles.j0 k bt408.2.2.2.2.2.2.2.2.2 bt419.1 bt419.2 bt423.1 bt427.1 bt431.1 bt431.2 bt435.1 bt435.2 (t441 != t442) bt408.1 bt408.2.1 bt408.2.2.1 bt408.2.2.2.1 bt408.2.2.2.2.1 bt408.2.2.2.2.2.1 bt408.2.2.2.2.2.2.1 bt408.2.2.2.2.2.2.2.1 bt408.2.2.2.2.2.2.2.2.1))))) else (laws_FnArticles.j0 k bt408.2.2.2.2.2.2.2.2.2 bt419.1 bt419.2 bt423.1 bt427.1 bt431.1 bt431.2 bt435.1 bt435.2 true bt408.1 bt408.2.1 bt408.2.2.1 bt408.2.2.2.1 bt408.2.2.2.2.1 bt408.2.2.2.2.2.1 bt408.2.2.2.2.2.2.1 bt408.2.2.2.2.2.2.2.1 bt408.2.2.2.2.2.2.2.2.1)) else (laws_FnArticles.j0 k bt408.2.2.2.2.2.2.2.2.2 bt419.1 bt419.2 bt423.1 bt427.1 bt431.1 bt431.2 bt435.1 bt435.2 true bt408.1 bt408.2.1 bt408.2.2.1 bt408.2.2.2.1 bt408.2.2.2.2.1 bt408.2.2.2.2.2.1 bt408.2.2.2.2.2.2.1 bt408.2.2.2.2.2.2.2.1 bt408.2.2.2.2.2.2.2.2.1)) else (laws_FnArticles.j0 k bt408.2.2.2.2.2.2.2.2.2 bt419.1 bt419.2 bt423.1 bt427.1 bt431.1 bt431.2 bt435.1 bt435.2 true bt408.1 bt408.2.1 bt408.2.2.1 bt408.2.2.2.1 bt408.2.2.2.2.1 bt408.2.2.2.2.2.1 bt408.2.2.2.2.2.2.1 bt408.2.2.2.2.2.2.2.1 bt408.2.2.2.2.2.2.2.2.1)) else (laws_FnArticles.j0 k bt408.2.2.2.2.2.2.2.2.2 bt419.1 bt419.2 bt423.1 bt427.1 bt431.1 bt431.2 bt435.1 bt435.2 true bt408.1 bt408.2.1 bt408.2.2.1 bt408.2.2.2.1 bt408.2.2.2.2.1 bt408.2.2.2.2.2.1 bt408.2.2.2.2.2.2.1 bt408.2.2.2.2.2.2.2.1 bt408.2.2.2.2.2.2.2.2.1)) else (laws_FnArticles.j0 k bt408.2.2.2.2.2.2.2.2.2 bt419.1 bt419.2 bt423.1 bt427.1 bt431.1 bt431.2 bt435.1 bt435.2 true bt408.1 bt408.2.1 bt408.2.2.1 bt408.2.2.2.1 bt408.2.2.2.2.1 bt408.2.2.2.2.2.1 bt408.2.2.2.2.2.2.1 bt408.2.2.2.2.2.2.2.1 bt408.2.2.2.2.2.2.2.2.1))) else (laws_FnArticles.j0 k bt408.2.2.2.2.2.2.2.2.2 bt419.1 bt419.2 bt423.1 bt427.1 bt431.1 bt431.2 bt435.1 bt435.2 true bt408.1 bt408.2.1 bt408.2.2.1 bt408.2.2.2.1 bt408.2.2.2.2.1 bt408.2.2.2.2.2.1 bt408.2.2.2.2.2.2.1 bt408.2.2.2.2.2.2.2.1 bt408.2.2.2.2.2.2.2.2.1))))))))))) = some r := H
 have A2 := Aside0.mk A20
 clear A20
 by_cases c3 : t407 = true
 ·
  subst c3
  have H1 : (some true) = some r := by rw [if_pos rfl] at H; exact H
  clear H
  have H := H1
  clear H1
  obtain rfl := Option.some.inj H
  simp only [Option.some.injEq, Prod.mk.injEq] at H
  obtain ⟨rfl⟩ := H
  go_enter Try.func13, Try.ntmps13
  go_wp2_with (first | (go_at_call 19; (with_reducible refine (laws_big.calls _ _ l0 true _ ?side1 ?side2 A2.out).mono ?_); (case side1 => repeat (first | exact HR0.out | (with_reducible first | apply cA | apply cN | apply cD))); (case side2 => exact HC0.out); rintro e w' ⟨rfl, ⟨nd, rfl⟩⟩; (try first | exact ⟨rfl, _, World.drewN_drewN _ _ _⟩ | exact ⟨rfl, _, Eq.trans (World.drewN_drewN _ _ _) (congrArg (World.drewN _) (Nat.add_assoc _ _ _))⟩)))
  repeat (go_quiet (first | (go_at_call 19; (with_reducible refine (laws_big.calls _ _ l0 true _ ?side1 ?side2 A2.out).mono ?_); (case side1 => repeat (first | exact HR0.out | (with_reducible first | apply cA | apply cN | apply cD))); (case side2 => exact HC0.out); rintro e w' ⟨rfl, ⟨nd, rfl⟩⟩; (try first | exact ⟨rfl, _, World.drewN_drewN _ _ _⟩ | exact ⟨rfl, _, Eq.trans (World.drewN_drewN _ _ _) (congrArg (World.drewN _) (Nat.add_assoc _ _ _))⟩))); try go_wp2_with (first | (go_at_call 19; (with_reducible refine (laws_big.calls _ _ l0 true _ ?side1 ?side2 A2.out).mono ?_); (case side1 => repeat (first | exact HR0.out | (with_reducible first | apply cA | apply cN | apply cD))); (case side2 => exact HC0.out); rintro e w' ⟨rfl, ⟨nd, rfl⟩⟩; (try first | exact ⟨rfl, _, World.drewN_drewN _ _ _⟩ | exact ⟨rfl, _, Eq.trans (World.drewN_drewN _ _ _) (congrArg (World.drewN _) (Nat.add_assoc _ _ _))⟩))))
  go_ret
  exact ⟨by first | rfl | (simp [errW_none, errW_some] <;> rfl) | (simp [*, errW_none, errW_some] <;> rfl), by repeat (first | (with_reducible first | exact HB.out | apply lA | apply lN | apply lD) | exact HB.out)⟩
 ·
  replace c3 := Bool.eq_false_iff.mpr c3
  subst c3
  have H1 : ((spec_DrawShotWindows.f k l0).bind fun bt408 => ((impl_ShotWindows.f k bt408.1 bt408.2.1 bt408.2.2.1 bt408.2.2.2.1 bt408.2.2.2.2.1 bt408.2.2.2.2.2.1 bt408.2.2.2.2.2.2.1 bt408.2.2.2.2.2.2.2.1 bt408.2.2.2.2.2.2.2.2.1 bt408.2.2.2.2.2.2.2.2.2).bind fun bt419 => ((spec_ShotWindows.f k bt408.1 bt408.2.1 bt408.2.2.1 bt408.2.2.2.1 bt408.2.2.2.2.1 bt408.2.2.2.2.2.1 bt408.2.2.2.2.2.2.1 bt408.2.2.2.2.2.2.2.1 bt408.2.2.2.2.2.2.2.2.1 bt408.2.2.2.2.2.2.2.2.2).bind fun bt423 => ((impl_LengthOf.f k bt408.1 bt408.2.1 bt408.2.2.1 bt408.2.2.2.1 bt408.2.2.2.2.1 bt408.2.2.2.2.2.1 bt408.2.2.2.2.2.2.1 bt408.2.2.2.2.2.2.2.1 bt408.2.2.2.2.2.2.2.2.1).bind fun bt427 => ((spec_LengthOf.f k bt408.1 bt408.2.1 bt408.2.2.1 bt408.2.2.2.1 bt408.2.2.2.2.1 bt408.2.2.2.2.2.1 bt408.2.2.2.2.2.2.1 bt408.2.2.2.2.2.2.2.1 bt408.2.2.2.2.2.2.2.2.1).bind fun bt429 => ((spec_DrawFindArticle.f k l0).bind fun bt431 => ((impl_FindArticle.f k bt431.1 bt431.2).bind fun bt435 => ((spec_FindArticle.f k bt431.1 bt431.2).bind fun bt437 => (if bt419.2 = bt423.2 then ((laws_likeRows.f k bt419.1 bt423.1).bind fun t439 => (if t439 = true then (if bt427.2 = bt429.2 then (if bt427.1 = bt429.1 then (if bt435.2 = bt437.2 then (if bt435.1 = bt437.1 then ((impl_IsArticle.f k bt408.1 bt408.2.1 bt408.2.2.1 bt408.2.2.2.1 bt408.2.2.2.2.1 bt408.2.2.2.2.2.1 bt408.2.2.2.2.2.2.1 bt408.2.2.2.2.2.2.2.1 bt408.2.2.2.2.2.2.2.2.1).bind fun t440 => (if (t440 != (bt429.2 == 0)) = true then (laws_FnArticles.j0 k bt408.2.2.2.2.2.2.2.2.2 bt419.1 bt419.2 bt423.1 bt427.1 bt431.1 bt431.2 bt435.1 bt435.2 true bt408.1 bt408.2.1 bt408.2.2.1 bt408.2.2.2.1 bt408.2.2.2.2.1 bt408.2.2.2.2.2.1 bt408.2.2.2.2.2.2.1 bt408.2.2.2.2.2.2.2.1 bt408.2.2.2.2.2.2.2.2.1) else ((impl_AreArticles.f k bt431.1).bind fun t441 => ((spec_AreArticles.f k bt431.1).bind fun t442 => (laws_FnArticles.j0 k bt408.2.2.2.2.2.2.2.2.2 bt419.1 bt419.2 bt423.1 bt427.1 bt431.1 bt431.2 bt435.1 bt435.2 (t441 != t442) bt408.1 bt408.2.1 bt408.2.2.1 bt408.2.2.2.1 bt408.2.2.2.2.1 bt408.2.2.2.2.2.1 bt408.2.2.2.2.2.2.1 bt408.2.2.2.2.2.2.2.1 bt408.2.2.2.2.2.2.2.2.1))))) else (laws_FnArticles.j0 k bt408.2.2.2.2.2.2.2.2.2 bt419.1 bt419.2 bt423.1 bt427.1 bt431.1 bt431.2 bt435.1 bt435.2 true bt408.1 bt408.2.1 bt408.2.2.1 bt408.2.2.2.1 bt408.2.2.2.2.1 bt408.2.2.2.2.2.1 bt408.2.2.2.2.2.2.1 bt408.2.2.2.2.2.2.2.1 bt408.2.2.2.2.2.2.2.2.1)) else (laws_FnArticles.j0 k bt408.2.2.2.2.2.2.2.2.2 bt419.1 bt419.2 bt423.1 bt427.1 bt431.1 bt431.2 bt435.1 bt435.2 true bt408.1 bt408.2.1 bt408.2.2.1 bt408.2.2.2.1 bt408.2.2.2.2.1 bt408.2.2.2.2.2.1 bt408.2.2.2.2.2.2.1 bt408.2.2.2.2.2.2.2.1 bt408.2.2.2.2.2.2.2.2.1)) else (laws_FnArticles.j0 k bt408.2.2.2.2.2.2.2.2.2 bt419.1 bt419.2 bt423.1 bt427.1 bt431.1 bt431.2 bt435.1 bt435.2 true bt408.1 bt408.2.1 bt408.2.2.1 bt408.2.2.2.1 bt408.2.2.2.2.1 bt408.2.2.2.2.2.1 bt408.2.2.2.2.2.2.1 bt408.2.2.2.2.2.2.2.1 bt408.2.2.2.2.2.2.2.2.1)) else (laws_FnArticles.j0 k bt408.2.2.2.2.2.2.2.2.2 bt419.1 bt419.2 bt423.1 bt427.1 bt431.1 bt431.2 bt435.1 bt435.2 true bt408.1 bt408.2.1 bt408.2.2.1 bt408.2.2.2.1 bt408.2.2.2.2.1 bt408.2.2.2.2.2.1 bt408.2.2.2.2.2.2.1 bt408.2.2.2.2.2.2.2.1 bt408.2.2.2.2.2.2.2.2.1)) else (laws_FnArticles.j0 k bt408.2.2.2.2.2.2.2.2.2 bt419.1 bt419.2 bt423.1 bt427.1 bt431.1 bt431.2 bt435.1 bt435.2 true bt408.1 bt408.2.1 bt408.2.2.1 bt408.2.2.2.1 bt408.2.2.2.2.1 bt408.2.2.2.2.2.1 bt408.2.2.2.2.2.2.1 bt408.2.2.2.2.2.2.2.1 bt408.2.2.2.2.2.2.2.2.1))) else (laws_FnArticles.j0 k bt408.2.2.2.2.2.2.2.2.2 bt419.1 bt419.2 bt423.1 bt427.1 bt431.1 bt431.2 bt435.1 bt435.2 true bt408.1 bt408.2.1 bt408.2.2.1 bt408.2.2.2.1 bt408.2.2.2.2.1 bt408.2.2.2.2.2.1 bt408.2.2.2.2.2.2.1 bt408.2.2.2.2.2.2.2.1 bt408.2.2.2.2.2.2.2.2.1)))))))))) = some r := by rw [if_neg (show ¬ (false = true) by decide)] at H; exact H
  clear H
  have H := H1
  clear H1
  replace H := Option.bind_eq_some_iff.mp H
  obtain ⟨⟨t408, t409, t410, t411, t412, t413, t414, t415, t416, t417⟩, A40, H⟩ := H
  replace H : ((impl_ShotWindows.f k t408 t409 t410 t411 t412 t413 t414 t415 t416 t417).bind fun bt419 => ((spec_ShotWindows.f k t408 t409 t410 t411 t412 t413 t414 t415 t416 t417).bind fun bt423 => ((impl_LengthOf.f k t408 t409 t410 t411 t412 t413 t414 t415 t416).bind fun bt427 => ((spec_LengthOf.f k t408 t409 t410 t411 t412 t413 t414 t415 t416).bind fun bt429 => ((spec_DrawFindArticle.f k l0).bind fun bt431 => ((impl_FindArticle.f k bt431.1 bt431.2).bind fun bt435 => ((spec_FindArticle.f k bt431.1 bt431.2).bind fun bt437 => (if bt419.2 = bt423.2 then ((laws_likeRows.f k bt419.1 bt423.1).bind fun t439 => (if t439 = true then (if bt427.2 = bt429.2 then (if bt427.1 = bt429.1 then (if bt435.2 = bt437.2 then (if bt435.1 = bt437.1 then ((impl_IsArticle.f k t408 t409 t410 t411 t412 t413 t414 t415 t416).bind fun t440 => (if (t440 != (bt429.2 == 0)) = true then (laws_FnArticles.j0 k t417 bt419.1 bt419.2 bt423.1 bt427.1 bt431.1 bt431.2 bt435.1 bt435.2 true t408 t409 t410 t411 t412 t413 t414 t415 t416) else ((impl_AreArticles.f k bt431.1).bind fun t441 => ((spec_AreArticles.f k bt431.1).bind fun t442 => (laws_FnArticles.j0 k t417 bt419.1 bt419.2 bt423.1 bt427.1 bt431.1 bt431.2 bt435.1 bt435.2 (t441 != t442) t408 t409 t410 t411 t412 t413 t414 t415 t416))))) else (laws_FnArticles.j0 k t417 bt419.1 bt419.2 bt423.1 bt427.1 bt431.1 bt431.2 bt435.1 bt435.2 true t408 t409 t410 t411 t412 t413 t414 t415 t416)) else (laws_FnArticles.j0 k t417 bt419.1 bt419.2 bt423.1 bt427.1 bt431.1 bt431.2 bt435.1 bt435.2 true t408 t409 t410 t411 t412 t413 t414 t415 t416)) else (laws_FnArticles.j0 k t417 bt419.1 bt419.2 bt423.1 bt427.1 bt431.1 bt431.2 bt435.1 bt435.2 true t408 t409 t410 t411 t412 t413 t414 t415 t416)) else (laws_FnArticles.j0 k t417 bt419.1 bt419.2 bt423.1 bt427.1 bt431.1 bt431.2 bt435.1 bt435.2 true t408 t409 t410 t411 t412 t413 t414 t415 t416)) else (laws_FnArticles.j0 k t417 bt419.1 bt419.2 bt423.1 bt427.1 bt431.1 bt431.2 bt435.1 bt435.2 true t408 t409 t410 t411 t412 t413 t414 t415 t416))) else (laws_FnArticles.j0 k t417 bt419.1 bt419.2 bt423.1 bt427.1 bt431.1 bt431.2 bt435.1 bt435.2 true t408 t409 t410 t411 t412 t413 t414 t415 t416))))))))) = some r := H
  have A4 := Aside0.mk A40
  clear A40
  replace H := Option.bind_eq_some_iff.mp H
  obtain ⟨⟨t419, t422⟩, A50, H⟩ := H
  replace H : ((spec_ShotWindows.f k t408 t409 t410 t411 t412 t413 t414 t415 t416 t417).bind fun bt423 => ((impl_LengthOf.f k t408 t409 t410 t411 t412 t413 t414 t415 t416).bind fun bt427 => ((spec_LengthOf.f k t408 t409 t410 t411 t412 t413 t414 t415 t416).bind fun bt429 => ((spec_DrawFindArticle.f k l0).bind fun bt431 => ((impl_FindArticle.f k bt431.1 bt431.2).bind fun bt435 => ((spec_FindArticle.f k bt431.1 bt431.2).bind fun bt437 => (if t422 = bt423.2 then ((laws_likeRows.f k t419 bt423.1).bind fun t439 => (if t439 = true then (if bt427.2 = bt429.2 then (if bt427.1 = bt429.1 then (if bt435.2 = bt437.2 then (if bt435.1 = bt437.1 then ((impl_IsArticle.f k t408 t409 t410 t411 t412 t413 t414 t415 t416).bind fun t440 => (if (t440 != (bt429.2 == 0)) = true then (laws_FnArticles.j0 k t417 t419 t422 bt423.1 bt427.1 bt431.1 bt431.2 bt435.1 bt435.2 true t408 t409 t410 t411 t412 t413 t414 t415 t416) else ((impl_AreArticles.f k bt431.1).bind fun t441 => ((spec_AreArticles.f k bt431.1).bind fun t442 => (laws_FnArticles.j0 k t417 t419 t422 bt423.1 bt427.1 bt431.1 bt431.2 bt435.1 bt435.2 (t441 != t442) t408 t409 t410 t411 t412 t413 t414 t415 t416))))) else (laws_FnArticles.j0 k t417 t419 t422 bt423.1 bt427.1 bt431.1 bt431.2 bt435.1 bt435.2 true t408 t409 t410 t411 t412 t413 t414 t415 t416)) else (laws_FnArticles.j0 k t417 t419 t422 bt423.1 bt427.1 bt431.1 bt431.2 bt435.1 bt435.2 true t408 t409 t410 t411 t412 t413 t414 t415 t416)) else (laws_FnArticles.j0 k t417 t419 t422 bt423.1 bt427.1 bt431.1 bt431.2 bt435.1 bt435.2 true t408 t409 t410 t411 t412 t413 t414 t415 t416)) else (laws_FnArticles.j0 k t417 t419 t422 bt423.1 bt427.1 bt431.1 bt431.2 bt435.1 bt435.2 true t408 t409 t410 t411 t412 t413 t414 t415 t416)) else (laws_FnArticles.j0 k t417 t419 t422 bt423.1 bt427.1 bt431.1 bt431.2 bt435.1 bt435.2 true t408 t409 t410 t411 t412 t413 t414 t415 t416))) else (laws_FnArticles.j0 k t417 t419 t422 bt423.1 bt427.1 bt431.1 bt431.2 bt435.1 bt435.2 true t408 t409 t410 t411 t412 t413 t414 t415 t416)))))))) = some r := H
  have A5 := Aside0.mk A50
  clear A50
  replace H := Option.bind_eq_some_iff.mp H
  obtain ⟨⟨t423, t426⟩, A60, H⟩ := H
  replace H : ((impl_LengthOf.f k t408 t409 t410 t411 t412 t413 t414 t415 t416).bind fun bt427 => ((spec_LengthOf.f k t408 t409 t410 t411 t412 t413 t414 t415 t416).bind fun bt429 => ((spec_DrawFindArticle.f k l0).bind fun bt431 => ((impl_FindArticle.f k bt431.1 bt431.2).bind fun bt435 => ((spec_FindArticle.f k bt431.1 bt431.2).bind fun bt437 => (if t422 = t426 then ((laws_likeRows.f k t419 t423).bind fun t439 => (if t439 = true then (if bt427.2 = bt429.2 then (if bt427.1 = bt429.1 then (if bt435.2 = bt437.2 then (if bt435.1 = bt437.1 then ((impl_IsArticle.f k t408 t409 t410 t411 t412 t413 t414 t415 t416).bind fun t440 => (if (t440 != (bt429.2 == 0)) = true then (laws_FnArticles.j0 k t417 t419 t422 t423 bt427.1 bt431.1 bt431.2 bt435.1 bt435.2 true t408 t409 t410 t411 t412 t413 t414 t415 t416) else ((impl_AreArticles.f k bt431.1).bind fun t441 => ((spec_AreArticles.f k bt431.1).bind fun t442 => (laws_FnArticles.j0 k t417 t419 t422 t423 bt427.1 bt431.1 bt431.2 bt435.1 bt435.2 (t441 != t442) t408 t409 t410 t411 t412 t413 t414 t415 t416))))) else (laws_FnArticles.j0 k t417 t419 t422 t423 bt427.1 bt431.1 bt431.2 bt435.1 bt435.2 true t408 t409 t410 t411 t412 t413 t414 t415 t416)) else (laws_FnArticles.j0 k t417 t419 t422 t423 bt427.1 bt431.1 bt431.2 bt435.1 bt435.2 true t408 t409 t410 t411 t412 t413 t414 t415 t416)) else (laws_FnArticles.j0 k t417 t419 t422 t423 bt427.1 bt431.1 bt431.2 bt435.1 bt435.2 true t408 t409 t410 t411 t412 t413 t414 t415 t416)) else (laws_FnArticles.j0 k t417 t419 t422 t423 bt427.1 bt431.1 bt431.2 bt435.1 bt435.2 true t408 t409 t410 t411 t412 t413 t414 t415 t416)) else (laws_FnArticles.j0 k t417 t419 t422 t423 bt427.1 bt431.1 bt431.2 bt435.1 bt435.2 true t408 t409 t410 t411 t412 t413 t414 t415 t416))) else (laws_FnArticles.j0 k t417 t419 t422 t423 bt427.1 bt431.1 bt431.2 bt435.1 bt435.2 true t408 t409 t410 t411 t412 t413 t414 t415 t416))))))) = some r := H
  have A6 := Aside0.mk A60
  clear A60
  replace H := Option.bind_eq_some_iff.mp H
  obtain ⟨⟨t427, t428⟩, A70, H⟩ := H
  replace H : ((spec_LengthOf.f k t408 t409 t410 t411 t412 t413 t414 t415 t416).bind fun bt429 => ((spec_DrawFindArticle.f k l0).bind fun bt431 => ((impl_FindArticle.f k bt431.1 bt431.2).bind fun bt435 => ((spec_FindArticle.f k bt431.1 bt431.2).bind fun bt437 => (if t422 = t426 then ((laws_likeRows.f k t419 t423).bind fun t439 => (if t439 = true then (if t428 = bt429.2 then (if t427 = bt429.1 then (if bt435.2 = bt437.2 then (if bt435.1 = bt437.1 then ((impl_IsArticle.f k t408 t409 t410 t411 t412 t413 t414 t415 t416).bind fun t440 => (if (t440 != (bt429.2 == 0)) = true then (laws_FnArticles.j0 k t417 t419 t422 t423 t427 bt431.1 bt431.2 bt435.1 bt435.2 true t408 t409 t410 t411 t412 t413 t414 t415 t416) else ((impl_AreArticles.f k bt431.1).bind fun t441 => ((spec_AreArticles.f k bt431.1).bind fun t442 => (laws_FnArticles.j0 k t417 t419 t422 t423 t427 bt431.1 bt431.2 bt435.1 bt435.2 (t441 != t442) t408 t409 t410 t411 t412 t413 t414 t415 t416))))) else (laws_FnArticles.j0 k t417 t419 t422 t423 t427 bt431.1 bt431.2 bt435.1 bt435.2 true t408 t409 t410 t411 t412 t413 t414 t415 t416)) else (laws_FnArticles.j0 k t417 t419 t422 t423 t427 bt431.1 bt431.2 bt435.1 bt435.2 true t408 t409 t410 t411 t412 t413 t414 t415 t416)) else (laws_FnArticles.j0 k t417 t419 t422 t423 t427 bt431.1 bt431.2 bt435.1 bt435.2 true t408 t409 t410 t411 t412 t413 t414 t415 t416)) else (laws_FnArticles.j0 k t417 t419 t422 t423 t427 bt431.1 bt431.2 bt435.1 bt435.2 true t408 t409 t410 t411 t412 t413 t414 t415 t416)) else (laws_FnArticles.j0 k t417 t419 t422 t423 t427 bt431.1 bt431.2 bt435.1 bt435.2 true t408 t409 t410 t411 t412 t413 t414 t415 t416))) else (laws_FnArticles.j0 k t417 t419 t422 t423 t427 bt431.1 bt431.2 bt435.1 bt435.2 true t408 t409 t410 t411 t412 t413 t414 t415 t416)))))) = some r := H
  have A7 := Aside0.mk A70
  clear A70
  replace H := Option.bind_eq_some_iff.mp H
  obtain ⟨⟨t429, t430⟩, A80, H⟩ := H
  replace H : ((spec_DrawFindArticle.f k l0).bind fun bt431 => ((impl_FindArticle.f k bt431.1 bt431.2).bind fun bt435 => ((spec_FindArticle.f k bt431.1 bt431.2).bind fun bt437 => (if t422 = t426 then ((laws_likeRows.f k t419 t423).bind fun t439 => (if t439 = true then (if t428 = t430 then (if t427 = t429 then (if bt435.2 = bt437.2 then (if bt435.1 = bt437.1 then ((impl_IsArticle.f k t408 t409 t410 t411 t412 t413 t414 t415 t416).bind fun t440 => (if (t440 != (t430 == 0)) = true then (laws_FnArticles.j0 k t417 t419 t422 t423 t427 bt431.1 bt431.2 bt435.1 bt435.2 true t408 t409 t410 t411 t412 t413 t414 t415 t416) else ((impl_AreArticles.f k bt431.1).bind fun t441 => ((spec_AreArticles.f k bt431.1).bind fun t442 => (laws_FnArticles.j0 k t417 t419 t422 t423 t427 bt431.1 bt431.2 bt435.1 bt435.2 (t441 != t442) t408 t409 t410 t411 t412 t413 t414 t415 t416))))) else (laws_FnArticles.j0 k t417 t419 t422 t423 t427 bt431.1 bt431.2 bt435.1 bt435.2 true t408 t409 t410 t411 t412 t413 t414 t415 t416)) else (laws_FnArticles.j0 k t417 t419 t422 t423 t427 bt431.1 bt431.2 bt435.1 bt435.2 true t408 t409 t410 t411 t412 t413 t414 t415 t416)) else (laws_FnArticles.j0 k t417 t419 t422 t423 t427 bt431.1 bt431.2 bt435.1 bt435.2 true t408 t409 t410 t411 t412 t413 t414 t415 t416)) else (laws_FnArticles.j0 k t417 t419 t422 t423 t427 bt431.1 bt431.2 bt435.1 bt435.2 true t408 t409 t410 t411 t412 t413 t414 t415 t416)) else (laws_FnArticles.j0 k t417 t419 t422 t423 t427 bt431.1 bt431.2 bt435.1 bt435.2 true t408 t409 t410 t411 t412 t413 t414 t415 t416))) else (laws_FnArticles.j0 k t417 t419 t422 t423 t427 bt431.1 bt431.2 bt435.1 bt435.2 true t408 t409 t410 t411 t412 t413 t414 t415 t416))))) = some r := H
  have A8 := Aside0.mk A80
  clear A80
  replace H := Option.bind_eq_some_iff.mp H
  obtain ⟨⟨t431, t432⟩, A90, H⟩ := H
  replace H : ((impl_FindArticle.f k t431 t432).bind fun bt435 => ((spec_FindArticle.f k t431 t432).bind fun bt437 => (if t422 = t426 then ((laws_likeRows.f k t419 t423).bind fun t439 => (if t439 = true then (if t428 = t430 then (if t427 = t429 then (if bt435.2 = bt437.2 then (if bt435.1 = bt437.1 then ((impl_IsArticle.f k t408 t409 t410 t411 t412 t413 t414 t415 t416).bind fun t440 => (if (t440 != (t430 == 0)) = true then (laws_FnArticles.j0 k t417 t419 t422 t423 t427 t431 t432 bt435.1 bt435.2 true t408 t409 t410 t411 t412 t413 t414 t415 t416) else ((impl_AreArticles.f k t431).bind fun t441 => ((spec_AreArticles.f k t431).bind fun t442 => (laws_FnArticles.j0 k t417 t419 t422 t423 t427 t431 t432 bt435.1 bt435.2 (t441 != t442) t408 t409 t410 t411 t412 t413 t414 t415 t416))))) else (laws_FnArticles.j0 k t417 t419 t422 t423 t427 t431 t432 bt435.1 bt435.2 true t408 t409 t410 t411 t412 t413 t414 t415 t416)) else (laws_FnArticles.j0 k t417 t419 t422 t423 t427 t431 t432 bt435.1 bt435.2 true t408 t409 t410 t411 t412 t413 t414 t415 t416)) else (laws_FnArticles.j0 k t417 t419 t422 t423 t427 t431 t432 bt435.1 bt435.2 true t408 t409 t410 t411 t412 t413 t414 t415 t416)) else (laws_FnArticles.j0 k t417 t419 t422 t423 t427 t431 t432 bt435.1 bt435.2 true t408 t409 t410 t411 t412 t413 t414 t415 t416)) else (laws_FnArticles.j0 k t417 t419 t422 t423 t427 t431 t432 bt435.1 bt435.2 true t408 t409 t410 t411 t412 t413 t414 t415 t416))) else (laws_FnArticles.j0 k t417 t419 t422 t423 t427 t431 t432 bt435.1 bt435.2 true t408 t409 t410 t411 t412 t413 t414 t415 t416)))) = some r := H
  have A9 := Aside0.mk A90
  clear A90
  replace H := Option.bind_eq_some_iff.mp H
  obtain ⟨⟨t435, t436⟩, A100, H⟩ := H
  replace H : ((spec_FindArticle.f k t431 t432).bind fun bt437 => (if t422 = t426 then ((laws_likeRows.f k t419 t423).bind fun t439 => (if t439 = true then (if t428 = t430 then (if t427 = t429 then (if t436 = bt437.2 then (if t435 = bt437.1 then ((impl_IsArticle.f k t408 t409 t410 t411 t412 t413 t414 t415 t416).bind fun t440 => (if (t440 != (t430 == 0)) = true then (laws_FnArticles.j0 k t417 t419 t422 t423 t427 t431 t432 t435 t436 true t408 t409 t410 t411 t412 t413 t414 t415 t416) else ((impl_AreArticles.f k t431).bind fun t441 => ((spec_AreArticles.f k t431).bind fun t442 => (laws_FnArticles.j0 k t417 t419 t422 t423 t427 t431 t432 t435 t436 (t441 != t442) t408 t409 t410 t411 t412 t413 t414 t415 t416))))) else (laws_FnArticles.j0 k t417 t419 t422 t423 t427 t431 t432 t435 t436 true t408 t409 t410 t411 t412 t413 t414 t415 t416)) else (laws_FnArticles.j0 k t417 t419 t422 t423 t427 t431 t432 t435 t436 true t408 t409 t410 t411 t412 t413 t414 t415 t416)) else (laws_FnArticles.j0 k t417 t419 t422 t423 t427 t431 t432 t435 t436 true t408 t409 t410 t411 t412 t413 t414 t415 t416)) else (laws_FnArticles.j0 k t417 t419 t422 t423 t427 t431 t432 t435 t436 true t408 t409 t410 t411 t412 t413 t414 t415 t416)) else (laws_FnArticles.j0 k t417 t419 t422 t423 t427 t431 t432 t435 t436 true t408 t409 t410 t411 t412 t413 t414 t415 t416))) else (laws_FnArticles.j0 k t417 t419 t422 t423 t427 t431 t432 t435 t436 true t408 t409 t410 t411 t412 t413 t414 t415 t416))) = some r := H
  have A10 := Aside0.mk A100
  clear A100
  replace H := Option.bind_eq_some_iff.mp H
  obtain ⟨⟨t437, t438⟩, A110, H⟩ := H
  replace H : (if t422 = t426 then ((laws_likeRows.f k t419 t423).bind fun t439 => (if t439 = true then (if t428 = t430 then (if t427 = t429 then (if t436 = t438 then (if t435 = t437 then ((impl_IsArticle.f k t408 t409 t410 t411 t412 t413 t414 t415 t416).bind fun t440 => (if (t440 != (t430 == 0)) = true then (laws_FnArticles.j0 k t417 t419 t422 t423 t427 t431 t432 t435 t436 true t408 t409 t410 t411 t412 t413 t414 t415 t416) else ((impl_AreArticles.f k t431).bind fun t441 => ((spec_AreArticles.f k t431).bind fun t442 => (laws_FnArticles.j0 k t417 t419 t422 t423 t427 t431 t432 t435 t436 (t441 != t442) t408 t409 t410 t411 t412 t413 t414 t415 t416))))) else (laws_FnArticles.j0 k t417 t419 t422 t423 t427 t431 t432 t435 t436 true t408 t409 t410 t411 t412 t413 t414 t415 t416)) else (laws_FnArticles.j0 k t417 t419 t422 t423 t427 t431 t432 t435 t436 true t408 t409 t410 t411 t412 t413 t414 t415 t416)) else (laws_FnArticles.j0 k t417 t419 t422 t423 t427 t431 t432 t435 t436 true t408 t409 t410 t411 t412 t413 t414 t415 t416)) else (laws_FnArticles.j0 k t417 t419 t422 t423 t427 t431 t432 t435 t436 true t408 t409 t410 t411 t412 t413 t414 t415 t416)) else (laws_FnArticles.j0 k t417 t419 t422 t423 t427 t431 t432 t435 t436 true t408 t409 t410 t411 t412 t413 t414 t415 t416))) else (laws_FnArticles.j0 k t417 t419 t422 t423 t427 t431 t432 t435 t436 true t408 t409 t410 t411 t412 t413 t414 t415 t416)) = some r := H
  have A11 := Aside0.mk A110
  clear A110
  have HC12 := Aside0.mk H
  clear H
  go_enter Try.func13, Try.ntmps13
  go_upto_region 11 with (first | (go_at_call 19; (with_reducible refine (laws_big.calls _ _ l0 false _ ?side1 ?side2 A2.out).mono ?_); (case side1 => repeat (first | exact HR0.out | (with_reducible first | apply cA | apply cN | apply cD))); (case side2 => exact HC0.out); rintro e w' ⟨rfl, ⟨nd, rfl⟩⟩; (try first | exact ⟨rfl, _, World.drewN_drewN _ _ _⟩ | exact ⟨rfl, _, Eq.trans (World.drewN_drewN _ _ _) (congrArg (World.drewN _) (Nat.add_assoc _ _ _))⟩)) | (go_at_call 51; (with_reducible refine (spec_DrawShotWindows.calls k _ _ l0 t408 t409 t410 t411 t412 t413 t414 t415 t416 t417 _ ?side1 ?side2 A4.out).mono ?_); (case side1 => repeat (first | exact HR0.out | (with_reducible first | apply cA | apply cN | apply cD))); (case side2 => exact HC0.out); rintro e w13 ⟨rfl, hb⟩; have n0_ := Aside0.mk (below_step (by repeat (first | (with_reducible first | exact HB.out | apply lA | apply lN | apply lD) | exact HB.out)) hb); clear HB; have HB := n0_; clear n0_; (try clear hb); (try clear hb2); (try clear hk); (try clear hi)) | ((with_reducible refine gate_dst (N := 3) rfl ?_); (try (refine gate_guard (by rfl) ?_; dsimp only)); refine box_event ?hg (N := 3) ?hd (cs := #[.string (⟨#[]⟩ : ByteArray), .int .i64 0, .int .i64 0, .int .i64 0, .int .i64 0, .int .i64 0, .int .i64 0, .int .i64 0, .int .i64 0]) (t := 26) ?hr ?_; (case hd => rfl); (case hg => rfl); (case hr => first | (go_simp; done) | (go_simp; rfl)); intro gb418 hg w14 hbox hb; have n0_ := Aside0.mk (below_step (by repeat (first | (with_reducible first | exact HB.out | apply lA | apply lN | apply lD) | exact HB.out)) hb); have n1_ := Aside0.mk (hbox); have n2_ := Aside0.mk ((by rw [hg]; exact (below_size (by repeat (first | (with_reducible first | exact HB.out | apply lA | apply lN | apply lD) | exact HB.out))) : w.heap.size ≤ gb418)); have n3_ := Aside0.mk ((by rw [hg]; exact (below_size (by repeat (first | (with_reducible first | exact HB.out | apply lA | apply lN | apply lD) | exact HB.out))) : w.heap.size ≤ gb418)); clear HB; have HB := n0_; have BK418 := n1_; have GW418 := n2_; have GE418 := n3_; clear n0_ n1_ n2_ n3_; clear hb hbox hg; have hcz15_0 : w14.cell? ⟨gb418, 0, none⟩ = some (.string (⟨#[]⟩ : ByteArray)) := (blk_cell BK418.out 0).trans rfl; have hcz15_1 : w14.cell? ⟨gb418, 1, none⟩ = some (.int .i64 0) := (blk_cell BK418.out 1).trans rfl; have hcz15_2 : w14.cell? ⟨gb418, 2, none⟩ = some (.int .i64 0) := (blk_cell BK418.out 2).trans rfl; have hcz15_3 : w14.cell? ⟨gb418, 3, none⟩ = some (.int .i64 0) := (blk_cell BK418.out 3).trans rfl; have hcz15_4 : w14.cell? ⟨gb418, 4, none⟩ = some (.int .i64 0) := (blk_cell BK418.out 4).trans rfl; have hcz15_5 : w14.cell? ⟨gb418, 5, none⟩ = some (.int .i64 0) := (blk_cell BK418.out 5).trans rfl; have hcz15_6 : w14.cell? ⟨gb418, 6, none⟩ = some (.int .i64 0) := (blk_cell BK418.out 6).trans rfl; have hcz15_7 : w14.cell? ⟨gb418, 7, none⟩ = some (.int .i64 0) := (blk_cell BK418.out 7).trans rfl; have hcz15_8 : w14.cell? ⟨gb418, 8, none⟩ = some (.int .i64 0) := (blk_cell BK418.out 8).trans rfl; have hfz15_0 := blk_frozen BK418.out 0; have hfz15_1 := blk_frozen BK418.out 1; have hfz15_2 := blk_frozen BK418.out 2; have hfz15_3 := blk_frozen BK418.out 3; have hfz15_4 := blk_frozen BK418.out 4; have hfz15_5 := blk_frozen BK418.out 5; have hfz15_6 := blk_frozen BK418.out 6; have hfz15_7 := blk_frozen BK418.out 7; have hfz15_8 := blk_frozen BK418.out 8) | (go_at_call 40; (with_reducible refine (impl_ShotWindows.calls k t408 t409 t410 t411 t412 t413 t414 t415 t416 t417 t419 t422 _ A5.out).mono ?_); rintro e w16 ⟨v420, rfl, ho0, hb⟩; have n0_ := Aside0.mk (Kd.S_lower ho0 (below_size (by repeat (first | (with_reducible first | exact HB.out | apply lA | apply lN | apply lD | refine below_set ?_ GE418.out) | exact HB.out)))); have n1_ := Aside0.mk (blk_below (g := gb418) (o := .cells #[.string t408, .int .i64 t409, .int .i64 t410, .int .i64 t411, .int .i64 t412, .int .i64 t413, .int .i64 t414, .int .i64 t415, .int .i64 t416] 26 (0, 0)) (by (with_reducible repeat first | apply bN | apply bD | apply bA); refine blk_put (cs := #[.string t408, .int .i64 t409, .int .i64 t410, .int .i64 t411, .int .i64 t412, .int .i64 t413, .int .i64 t414, .int .i64 t415, .int .i64 0]) ?_ 8 _ rfl; (with_reducible repeat first | apply bN | apply bD | apply bA); refine blk_put (cs := #[.string t408, .int .i64 t409, .int .i64 t410, .int .i64 t411, .int .i64 t412, .int .i64 t413, .int .i64 t414, .int .i64 0, .int .i64 0]) ?_ 7 _ rfl; (with_reducible repeat first | apply bN | apply bD | apply bA); refine blk_put (cs := #[.string t408, .int .i64 t409, .int .i64 t410, .int .i64 t411, .int .i64 t412, .int .i64 t413, .int .i64 0, .int .i64 0, .int .i64 0]) ?_ 6 _ rfl; (with_reducible repeat first | apply bN | apply bD | apply bA); refine blk_put (cs := #[.string t408, .int .i64 t409, .int .i64 t410, .int .i64 t411, .int .i64 t412, .int .i64 0, .int .i64 0, .int .i64 0, .int .i64 0]) ?_ 5 _ rfl; (with_reducible repeat first | apply bN | apply bD | apply bA); refine blk_put (cs := #[.string t408, .int .i64 t409, .int .i64 t410, .int .i64 t411, .int .i64 0, .int .i64 0, .int .i64 0, .int .i64 0, .int .i64 0]) ?_ 4 _ rfl; (with_reducible repeat first | apply bN | apply bD | apply bA); refine blk_put (cs := #[.string t408, .int .i64 t409, .int .i64 t410, .int .i64 0, .int .i64 0, .int .i64 0, .int .i64 0, .int .i64 0, .int .i64 0]) ?_ 3 _ rfl; (with_reducible repeat first | apply bN | apply bD | apply bA); refine blk_put (cs := #[.string t408, .int .i64 t409, .int .i64 0, .int .i64 0, .int .i64 0, .int .i64 0, .int .i64 0, .int .i64 0, .int .i64 0]) ?_ 2 _ rfl; (with_reducible repeat first | apply bN | apply bD | apply bA); refine blk_put (cs := #[.string t408, .int .i64 0, .int .i64 0, .int .i64 0, .int .i64 0, .int .i64 0, .int .i64 0, .int .i64 0, .int .i64 0]) ?_ 1 _ rfl; (with_reducible repeat first | apply bN | apply bD | apply bA); refine blk_put (cs := #[.string (⟨#[]⟩ : ByteArray), .int .i64 0, .int .i64 0, .int .i64 0, .int .i64 0, .int .i64 0, .int .i64 0, .int .i64 0, .int .i64 0]) ?_ 0 _ rfl; (with_reducible repeat first | apply bN | apply bD | apply bA); exact BK418.out) hb); have n2_ := Aside0.mk (below_step (by repeat (first | (with_reducible first | exact HB.out | apply lA | apply lN | apply lD | refine below_set ?_ GE418.out) | exact HB.out)) hb); clear BK418; clear HB; have HO421 := n0_; have BK418 := n1_; have HB := n2_; clear n0_ n1_ n2_; (try clear hb); (try clear hb2); (try clear hk); (try clear hi); (try clear ho0); have hcz17_0 : w16.cell? ⟨gb418, 0, none⟩ = some (.string t408) := (blk_cell BK418.out 0).trans rfl; have hcz17_1 : w16.cell? ⟨gb418, 1, none⟩ = some (.int .i64 t409) := (blk_cell BK418.out 1).trans rfl; have hcz17_2 : w16.cell? ⟨gb418, 2, none⟩ = some (.int .i64 t410) := (blk_cell BK418.out 2).trans rfl; have hcz17_3 : w16.cell? ⟨gb418, 3, none⟩ = some (.int .i64 t411) := (blk_cell BK418.out 3).trans rfl; have hcz17_4 : w16.cell? ⟨gb418, 4, none⟩ = some (.int .i64 t412) := (blk_cell BK418.out 4).trans rfl; have hcz17_5 : w16.cell? ⟨gb418, 5, none⟩ = some (.int .i64 t413) := (blk_cell BK418.out 5).trans rfl; have hcz17_6 : w16.cell? ⟨gb418, 6, none⟩ = some (.int .i64 t414) := (blk_cell BK418.out 6).trans rfl; have hcz17_7 : w16.cell? ⟨gb418, 7, none⟩ = some (.int .i64 t415) := (blk_cell BK418.out 7).trans rfl; have hcz17_8 : w16.cell? ⟨gb418, 8, none⟩ = some (.int .i64 t416) := (blk_cell BK418.out 8).trans rfl; have hfz17_0 := blk_frozen BK418.out 0; have hfz17_1 := blk_frozen BK418.out 1; have hfz17_2 := blk_frozen BK418.out 2; have hfz17_3 := blk_frozen BK418.out 3; have hfz17_4 := blk_frozen BK418.out 4; have hfz17_5 := blk_frozen BK418.out 5; have hfz17_6 := blk_frozen BK418.out 6; have hfz17_7 := blk_frozen BK418.out 7; have hfz17_8 := blk_frozen BK418.out 8) | (go_at_call 39; (with_reducible refine (spec_ShotWindows.calls k t408 t409 t410 t411 t412 t413 t414 t415 t416 t417 t423 t426 _ A6.out).mono ?_); rintro e w18 ⟨v424, rfl, ho0, hb⟩; have n0_ := Aside0.mk (Kd.S_elder' (by (with_reducible repeat (first | apply Kd.S_alloc | apply Kd.S_drewN | apply Kd.S_drew)); exact HO421.out) (Kd.S_base ho0) hb); have n1_ := Aside0.mk (Kd.S_lower (Kd.S_new' ho0 (Kd.S_lt (by (with_reducible repeat (first | apply Kd.S_alloc | apply Kd.S_drewN | apply Kd.S_drew)); exact HO421.out))) (below_size (by repeat (first | (with_reducible first | exact HB.out | apply lA | apply lN | apply lD | refine below_set ?_ GE418.out) | exact HB.out)))); have n2_ := Aside0.mk (blk_below (g := gb418) (o := .cells #[.string t408, .int .i64 t409, .int .i64 t410, .int .i64 t411, .int .i64 t412, .int .i64 t413, .int .i64 t414, .int .i64 t415, .int .i64 t416] 26 (0, 0)) (by (with_reducible repeat first | apply bN | apply bD | apply bA); exact BK418.out) hb); have n3_ := Aside0.mk (below_step (by repeat (first | (with_reducible first | exact HB.out | apply lA | apply lN | apply lD | refine below_set ?_ GE418.out) | exact HB.out)) hb); clear HO421; clear BK418; clear HB; have HO421 := n0_; have HO425 := n1_; have BK418 := n2_; have HB := n3_; clear n0_ n1_ n2_ n3_; (try clear hb); (try clear hb2); (try clear hk); (try clear hi); (try clear ho0); have hcz19_0 : w18.cell? ⟨gb418, 0, none⟩ = some (.string t408) := (blk_cell BK418.out 0).trans rfl; have hcz19_1 : w18.cell? ⟨gb418, 1, none⟩ = some (.int .i64 t409) := (blk_cell BK418.out 1).trans rfl; have hcz19_2 : w18.cell? ⟨gb418, 2, none⟩ = some (.int .i64 t410) := (blk_cell BK418.out 2).trans rfl; have hcz19_3 : w18.cell? ⟨gb418, 3, none⟩ = some (.int .i64 t411) := (blk_cell BK418.out 3).trans rfl; have hcz19_4 : w18.cell? ⟨gb418, 4, none⟩ = some (.int .i64 t412) := (blk_cell BK418.out 4).trans rfl; have hcz19_5 : w18.cell? ⟨gb418, 5, none⟩ = some (.int .i64 t413) := (blk_cell BK418.out 5).trans rfl; have hcz19_6 : w18.cell? ⟨gb418, 6, none⟩ = some (.int .i64 t414) := (blk_cell BK418.out 6).trans rfl; have hcz19_7 : w18.cell? ⟨gb418, 7, none⟩ = some (.int .i64 t415) := (blk_cell BK418.out 7).trans rfl; have hcz19_8 : w18.cell? ⟨gb418, 8, none⟩ = some (.int .i64 t416) := (blk_cell BK418.out 8).trans rfl; have hfz19_0 := blk_frozen BK418.out 0; have hfz19_1 := blk_frozen BK418.out 1; have hfz19_2 := blk_frozen BK418.out 2; have hfz19_3 := blk_frozen BK418.out 3; have hfz19_4 := blk_frozen BK418.out 4; have hfz19_5 := blk_frozen BK418.out 5; have hfz19_6 := blk_frozen BK418.out 6; have hfz19_7 := blk_frozen BK418.out 7; have hfz19_8 := blk_frozen BK418.out 8) | (go_at_call 27; (with_reducible refine (impl_LengthOf.calls k t408 t409 t410 t411 t412 t413 t414 t415 t416 t427 t428 _ A7.out).mono ?_); rintro e w20 ⟨rfl, hb⟩; have n0_ := Aside0.mk (Kd.S_below (by (with_reducible repeat (first | apply Kd.S_alloc | apply Kd.S_drewN | apply Kd.S_drew)); exact HO421.out) hb); have n1_ := Aside0.mk (Kd.S_below (by (with_reducible repeat (first | apply Kd.S_alloc | apply Kd.S_drewN | apply Kd.S_drew)); exact HO425.out) hb); have n2_ := Aside0.mk (blk_below (g := gb418) (o := .cells #[.string t408, .int .i64 t409, .int .i64 t410, .int .i64 t411, .int .i64 t412, .int .i64 t413, .int .i64 t414, .int .i64 t415, .int .i64 t416] 26 (0, 0)) (by (with_reducible repeat first | apply bN | apply bD | apply bA); exact BK418.out) hb); have n3_ := Aside0.mk (below_step (by repeat (first | (with_reducible first | exact HB.out | apply lA | apply lN | apply lD | refine below_set ?_ GE418.out) | exact HB.out)) hb); clear HO421; clear HO425; clear BK418; clear HB; have HO421 := n0_; have HO425 := n1_; have BK418 := n2_; have HB := n3_; clear n0_ n1_ n2_ n3_; (try clear hb); (try clear hb2); (try clear hk); (try clear hi); have hcz21_0 : w20.cell? ⟨gb418, 0, none⟩ = some (.string t408) := (blk_cell BK418.out 0).trans rfl; have hcz21_1 : w20.cell? ⟨gb418, 1, none⟩ = some (.int .i64 t409) := (blk_cell BK418.out 1).trans rfl; have hcz21_2 : w20.cell? ⟨gb418, 2, none⟩ = some (.int .i64 t410) := (blk_cell BK418.out 2).trans rfl; have hcz21_3 : w20.cell? ⟨gb418, 3, none⟩ = some (.int .i64 t411) := (blk_cell BK418.out 3).trans rfl; have hcz21_4 : w20.cell? ⟨gb418, 4, none⟩ = some (.int .i64 t412) := (blk_cell BK418.out 4).trans rfl; have hcz21_5 : w20.cell? ⟨gb418, 5, none⟩ = some (.int .i64 t413) := (blk_cell BK418.out 5).trans rfl; have hcz21_6 : w20.cell? ⟨gb418, 6, none⟩ = some (.int .i64 t414) := (blk_cell BK418.out 6).trans rfl; have hcz21_7 : w20.cell? ⟨gb418, 7, none⟩ = some (.int .i64 t415) := (blk_cell BK418.out 7).trans rfl; have hcz21_8 : w20.cell? ⟨gb418, 8, none⟩ = some (.int .i64 t416) := (blk_cell BK418.out 8).trans rfl; have hfz21_0 := blk_frozen BK418.out 0; have hfz21_1 := blk_frozen BK418.out 1; have hfz21_2 := blk_frozen BK418.out 2; have hfz21_3 := blk_frozen BK418.out 3; have hfz21_4 := blk_frozen BK418.out 4; have hfz21_5 := blk_frozen BK418.out 5; have hfz21_6 := blk_frozen BK418.out 6; have hfz21_7 := blk_frozen BK418.out 7; have hfz21_8 := blk_frozen BK418.out 8) | (go_at_call 26; (with_reducible refine (spec_LengthOf.calls k t408 t409 t410 t411 t412 t413 t414 t415 t416 t429 t430 _ A8.out).mono ?_); rintro e w22 ⟨rfl, hb⟩; have n0_ := Aside0.mk (Kd.S_below (by (with_reducible repeat (first | apply Kd.S_alloc | apply Kd.S_drewN | apply Kd.S_drew)); exact HO421.out) hb); have n1_ := Aside0.mk (Kd.S_below (by (with_reducible repeat (first | apply Kd.S_alloc | apply Kd.S_drewN | apply Kd.S_drew)); exact HO425.out) hb); have n2_ := Aside0.mk (blk_below (g := gb418) (o := .cells #[.string t408, .int .i64 t409, .int .i64 t410, .int .i64 t411, .int .i64 t412, .int .i64 t413, .int .i64 t414, .int .i64 t415, .int .i64 t416] 26 (0, 0)) (by (with_reducible repeat first | apply bN | apply bD | apply bA); exact BK418.out) hb); have n3_ := Aside0.mk (below_step (by repeat (first | (with_reducible first | exact HB.out | apply lA | apply lN | apply lD | refine below_set ?_ GE418.out) | exact HB.out)) hb); clear HO421; clear HO425; clear BK418; clear HB; have HO421 := n0_; have HO425 := n1_; have BK418 := n2_; have HB := n3_; clear n0_ n1_ n2_ n3_; (try clear hb); (try clear hb2); (try clear hk); (try clear hi)) | (go_at_call 52; (with_reducible refine (spec_DrawFindArticle.calls k _ _ l0 t431 t432 _ ?side1 ?side2 A9.out).mono ?_); (case side1 => repeat (first | exact (Kd.C_below HR0.out HB.out) | (with_reducible first | apply cA | apply cN | apply cD))); (case side2 => exact HC0.out); rintro e w23 ⟨v433, rfl, ho0, hb⟩; have n0_ := Aside0.mk (Kd.S_below (by (with_reducible repeat (first | apply Kd.S_alloc | apply Kd.S_drewN | apply Kd.S_drew)); exact HO421.out) hb); have n1_ := Aside0.mk (Kd.S_below (by (with_reducible repeat (first | apply Kd.S_alloc | apply Kd.S_drewN | apply Kd.S_drew)); exact HO425.out) hb); have n2_ := Aside0.mk (Kd.R_lower (Kd.R_newB ho0 (g := gb418) (o := .cells #[.string t408, .int .i64 t409, .int .i64 t410, .int .i64 t411, .int .i64 t412, .int .i64 t413, .int .i64 t414, .int .i64 t415, .int .i64 t416] 26 (0, 0)) (by (with_reducible repeat first | apply bN | apply bD | apply bA); exact BK418.out)) (below_size (by repeat (first | (with_reducible first | exact HB.out | apply lA | apply lN | apply lD | refine below_set ?_ GE418.out) | exact HB.out)))); have n3_ := Aside0.mk (blk_below (g := gb418) (o := .cells #[.string t408, .int .i64 t409, .int .i64 t410, .int .i64 t411, .int .i64 t412, .int .i64 t413, .int .i64 t414, .int .i64 t415, .int .i64 t416] 26 (0, 0)) (by (with_reducible repeat first | apply bN | apply bD | apply bA); exact BK418.out) hb); have n4_ := Aside0.mk (below_step (by repeat (first | (with_reducible first | exact HB.out | apply lA | apply lN | apply lD | refine below_set ?_ GE418.out) | exact HB.out)) hb); clear HO421; clear HO425; clear BK418; clear HB; have HO421 := n0_; have HO425 := n1_; have HO434 := n2_; have BK418 := n3_; have HB := n4_; clear n0_ n1_ n2_ n3_ n4_; (try clear hb); (try clear hb2); (try clear hk); (try clear hi); (try clear ho0); obtain ⟨Ao24, co24, eo24⟩ := Kd.R_slice HO434.out; subst eo24) | (go_at_call 48; (with_reducible refine (impl_FindArticle.calls k _ _ t431 t432 t435 t436 _ ?side1 ?side2 A10.out).mono ?_); (case side1 => repeat (first | exact (Kd.R_reads' HO434.out).2.2 | (with_reducible first | apply cA | apply cN | apply cD))); (case side2 => exact (Kd.R_reads' HO434.out).2.1); rintro e w25 ⟨rfl, hb⟩; have n0_ := Aside0.mk (Kd.S_below (by (with_reducible repeat (first | apply Kd.S_alloc | apply Kd.S_drewN | apply Kd.S_drew)); exact HO421.out) hb); have n1_ := Aside0.mk (Kd.S_below (by (with_reducible repeat (first | apply Kd.S_alloc | apply Kd.S_drewN | apply Kd.S_drew)); exact HO425.out) hb); have n2_ := Aside0.mk (Kd.R_below (by (with_reducible repeat (first | apply rA | apply rN | apply rD)); exact HO434.out) hb); have n3_ := Aside0.mk (blk_below (g := gb418) (o := .cells #[.string t408, .int .i64 t409, .int .i64 t410, .int .i64 t411, .int .i64 t412, .int .i64 t413, .int .i64 t414, .int .i64 t415, .int .i64 t416] 26 (0, 0)) (by (with_reducible repeat first | apply bN | apply bD | apply bA); exact BK418.out) hb); have n4_ := Aside0.mk (below_step (by repeat (first | (with_reducible first | exact HB.out | apply lA | apply lN | apply lD | refine below_set ?_ GE418.out) | exact HB.out)) hb); clear HO421; clear HO425; clear HO434; clear BK418; clear HB; have HO421 := n0_; have HO425 := n1_; have HO434 := n2_; have BK418 := n3_; have HB := n4_; clear n0_ n1_ n2_ n3_ n4_; (try clear hb); (try clear hb2); (try clear hk); (try clear hi)) | (go_at_call 47; (with_reducible refine (spec_FindArticle.calls k _ _ t431 t432 t437 t438 _ ?side1 ?side2 A11.out).mono ?_); (case side1 => repeat (first | exact (Kd.R_reads' HO434.out).2.2 | (with_reducible first | apply cA | apply cN | apply cD))); (case side2 => exact (Kd.R_reads' HO434.out).2.1); rintro e w26 ⟨rfl, hb⟩; have n0_ := Aside0.mk (Kd.S_below (by (with_reducible repeat (first | apply Kd.S_alloc | apply Kd.S_drewN | apply Kd.S_drew)); exact HO421.out) hb); have n1_ := Aside0.mk (Kd.S_below (by (with_reducible repeat (first | apply Kd.S_alloc | apply Kd.S_drewN | apply Kd.S_drew)); exact HO425.out) hb); have n2_ := Aside0.mk (Kd.R_below (by (with_reducible repeat (first | apply rA | apply rN | apply rD)); exact HO434.out) hb); have n3_ := Aside0.mk (blk_below (g := gb418) (o := .cells #[.string t408, .int .i64 t409, .int .i64 t410, .int .i64 t411, .int .i64 t412, .int .i64 t413, .int .i64 t414, .int .i64 t415, .int .i64 t416] 26 (0, 0)) (by (with_reducible repeat first | apply bN | apply bD | apply bA); exact BK418.out) hb); have n4_ := Aside0.mk (below_step (by repeat (first | (with_reducible first | exact HB.out | apply lA | apply lN | apply lD | refine below_set ?_ GE418.out) | exact HB.out)) hb); clear HO421; clear HO425; clear HO434; clear BK418; clear HB; have HO421 := n0_; have HO425 := n1_; have HO434 := n2_; have BK418 := n3_; have HB := n4_; clear n0_ n1_ n2_ n3_ n4_; (try clear hb); (try clear hb2); (try clear hk); (try clear hi)))
  repeat (go_quiet (first | (go_at_call 19; (with_reducible refine (laws_big.calls _ _ l0 false _ ?side1 ?side2 A2.out).mono ?_); (case side1 => repeat (first | exact HR0.out | (with_reducible first | apply cA | apply cN | apply cD))); (case side2 => exact HC0.out); rintro e w' ⟨rfl, ⟨nd, rfl⟩⟩; (try first | exact ⟨rfl, _, World.drewN_drewN _ _ _⟩ | exact ⟨rfl, _, Eq.trans (World.drewN_drewN _ _ _) (congrArg (World.drewN _) (Nat.add_assoc _ _ _))⟩)) | (go_at_call 51; (with_reducible refine (spec_DrawShotWindows.calls k _ _ l0 t408 t409 t410 t411 t412 t413 t414 t415 t416 t417 _ ?side1 ?side2 A4.out).mono ?_); (case side1 => repeat (first | exact HR0.out | (with_reducible first | apply cA | apply cN | apply cD))); (case side2 => exact HC0.out); rintro e w13 ⟨rfl, hb⟩; have n0_ := Aside0.mk (below_step (by repeat (first | (with_reducible first | exact HB.out | apply lA | apply lN | apply lD) | exact HB.out)) hb); clear HB; have HB := n0_; clear n0_; (try clear hb); (try clear hb2); (try clear hk); (try clear hi)) | ((with_reducible refine gate_dst (N := 3) rfl ?_); (try (refine gate_guard (by rfl) ?_; dsimp only)); refine box_event ?hg (N := 3) ?hd (cs := #[.string (⟨#[]⟩ : ByteArray), .int .i64 0, .int .i64 0, .int .i64 0, .int .i64 0, .int .i64 0, .int .i64 0, .int .i64 0, .int .i64 0]) (t := 26) ?hr ?_; (case hd => rfl); (case hg => rfl); (case hr => first | (go_simp; done) | (go_simp; rfl)); intro gb418 hg w14 hbox hb; have n0_ := Aside0.mk (below_step (by repeat (first | (with_reducible first | exact HB.out | apply lA | apply lN | apply lD) | exact HB.out)) hb); have n1_ := Aside0.mk (hbox); have n2_ := Aside0.mk ((by rw [hg]; exact (below_size (by repeat (first | (with_reducible first | exact HB.out | apply lA | apply lN | apply lD) | exact HB.out))) : w.heap.size ≤ gb418)); have n3_ := Aside0.mk ((by rw [hg]; exact (below_size (by repeat (first | (with_reducible first | exact HB.out | apply lA | apply lN | apply lD) | exact HB.out))) : w.heap.size ≤ gb418)); clear HB; have HB := n0_; have BK418 := n1_; have GW418 := n2_; have GE418 := n3_; clear n0_ n1_ n2_ n3_; clear hb hbox hg; have hcz15_0 : w14.cell? ⟨gb418, 0, none⟩ = some (.string (⟨#[]⟩ : ByteArray)) := (blk_cell BK418.out 0).trans rfl; have hcz15_1 : w14.cell? ⟨gb418, 1, none⟩ = some (.int .i64 0) := (blk_cell BK418.out 1).trans rfl; have hcz15_2 : w14.cell? ⟨gb418, 2, none⟩ = some (.int .i64 0) := (blk_cell BK418.out 2).trans rfl; have hcz15_3 : w14.cell? ⟨gb418, 3, none⟩ = some (.int .i64 0) := (blk_cell BK418.out 3).trans rfl; have hcz15_4 : w14.cell? ⟨gb418, 4, none⟩ = some (.int .i64 0) := (blk_cell BK418.out 4).trans rfl; have hcz15_5 : w14.cell? ⟨gb418, 5, none⟩ = some (.int .i64 0) := (blk_cell BK418.out 5).trans rfl; have hcz15_6 : w14.cell? ⟨gb418, 6, none⟩ = some (.int .i64 0) := (blk_cell BK418.out 6).trans rfl; have hcz15_7 : w14.cell? ⟨gb418, 7, none⟩ = some (.int .i64 0) := (blk_cell BK418.out 7).trans rfl; have hcz15_8 : w14.cell? ⟨gb418, 8, none⟩ = some (.int .i64 0) := (blk_cell BK418.out 8).trans rfl; have hfz15_0 := blk_frozen BK418.out 0; have hfz15_1 := blk_frozen BK418.out 1; have hfz15_2 := blk_frozen BK418.out 2; have hfz15_3 := blk_frozen BK418.out 3; have hfz15_4 := blk_frozen BK418.out 4; have hfz15_5 := blk_frozen BK418.out 5; have hfz15_6 := blk_frozen BK418.out 6; have hfz15_7 := blk_frozen BK418.out 7; have hfz15_8 := blk_frozen BK418.out 8) | (go_at_call 40; (with_reducible refine (impl_ShotWindows.calls k t408 t409 t410 t411 t412 t413 t414 t415 t416 t417 t419 t422 _ A5.out).mono ?_); rintro e w16 ⟨v420, rfl, ho0, hb⟩; have n0_ := Aside0.mk (Kd.S_lower ho0 (below_size (by repeat (first | (with_reducible first | exact HB.out | apply lA | apply lN | apply lD | refine below_set ?_ GE418.out) | exact HB.out)))); have n1_ := Aside0.mk (blk_below (g := gb418) (o := .cells #[.string t408, .int .i64 t409, .int .i64 t410, .int .i64 t411, .int .i64 t412, .int .i64 t413, .int .i64 t414, .int .i64 t415, .int .i64 t416] 26 (0, 0)) (by (with_reducible repeat first | apply bN | apply bD | apply bA); refine blk_put (cs := #[.string t408, .int .i64 t409, .int .i64 t410, .int .i64 t411, .int .i64 t412, .int .i64 t413, .int .i64 t414, .int .i64 t415, .int .i64 0]) ?_ 8 _ rfl; (with_reducible repeat first | apply bN | apply bD | apply bA); refine blk_put (cs := #[.string t408, .int .i64 t409, .int .i64 t410, .int .i64 t411, .int .i64 t412, .int .i64 t413, .int .i64 t414, .int .i64 0, .int .i64 0]) ?_ 7 _ rfl; (with_reducible repeat first | apply bN | apply bD | apply bA); refine blk_put (cs := #[.string t408, .int .i64 t409, .int .i64 t410, .int .i64 t411, .int .i64 t412, .int .i64 t413, .int .i64 0, .int .i64 0, .int .i64 0]) ?_ 6 _ rfl; (with_reducible repeat first | apply bN | apply bD | apply bA); refine blk_put (cs := #[.string t408, .int .i64 t409, .int .i64 t410, .int .i64 t411, .int .i64 t412, .int .i64 0, .int .i64 0, .int .i64 0, .int .i64 0]) ?_ 5 _ rfl; (with_reducible repeat first | apply bN | apply bD | apply bA); refine blk_put (cs := #[.string t408, .int .i64 t409, .int .i64 t410, .int .i64 t411, .int .i64 0, .int .i64 0, .int .i64 0, .int .i64 0, .int .i64 0]) ?_ 4 _ rfl; (with_reducible repeat first | apply bN | apply bD | apply bA); refine blk_put (cs := #[.string t408, .int .i64 t409, .int .i64 t410, .int .i64 0, .int .i64 0, .int .i64 0, .int .i64 0, .int .i64 0, .int .i64 0]) ?_ 3 _ rfl; (with_reducible repeat first | apply bN | apply bD | apply bA); refine blk_put (cs := #[.string t408, .int .i64 t409, .int .i64 0, .int .i64 0, .int .i64 0, .int .i64 0, .int .i64 0, .int .i64 0, .int .i64 0]) ?_ 2 _ rfl; (with_reducible repeat first | apply bN | apply bD | apply bA); refine blk_put (cs := #[.string t408, .int .i64 0, .int .i64 0, .int .i64 0, .int .i64 0, .int .i64 0, .int .i64 0, .int .i64 0, .int .i64 0]) ?_ 1 _ rfl; (with_reducible repeat first | apply bN | apply bD | apply bA); refine blk_put (cs := #[.string (⟨#[]⟩ : ByteArray), .int .i64 0, .int .i64 0, .int .i64 0, .int .i64 0, .int .i64 0, .int .i64 0, .int .i64 0, .int .i64 0]) ?_ 0 _ rfl; (with_reducible repeat first | apply bN | apply bD | apply bA); exact BK418.out) hb); have n2_ := Aside0.mk (below_step (by repeat (first | (with_reducible first | exact HB.out | apply lA | apply lN | apply lD | refine below_set ?_ GE418.out) | exact HB.out)) hb); clear BK418; clear HB; have HO421 := n0_; have BK418 := n1_; have HB := n2_; clear n0_ n1_ n2_; (try clear hb); (try clear hb2); (try clear hk); (try clear hi); (try clear ho0); have hcz17_0 : w16.cell? ⟨gb418, 0, none⟩ = some (.string t408) := (blk_cell BK418.out 0).trans rfl; have hcz17_1 : w16.cell? ⟨gb418, 1, none⟩ = some (.int .i64 t409) := (blk_cell BK418.out 1).trans rfl; have hcz17_2 : w16.cell? ⟨gb418, 2, none⟩ = some (.int .i64 t410) := (blk_cell BK418.out 2).trans rfl; have hcz17_3 : w16.cell? ⟨gb418, 3, none⟩ = some (.int .i64 t411) := (blk_cell BK418.out 3).trans rfl; have hcz17_4 : w16.cell? ⟨gb418, 4, none⟩ = some (.int .i64 t412) := (blk_cell BK418.out 4).trans rfl; have hcz17_5 : w16.cell? ⟨gb418, 5, none⟩ = some (.int .i64 t413) := (blk_cell BK418.out 5).trans rfl; have hcz17_6 : w16.cell? ⟨gb418, 6, none⟩ = some (.int .i64 t414) := (blk_cell BK418.out 6).trans rfl; have hcz17_7 : w16.cell? ⟨gb418, 7, none⟩ = some (.int .i64 t415) := (blk_cell BK418.out 7).trans rfl; have hcz17_8 : w16.cell? ⟨gb418, 8, none⟩ = some (.int .i64 t416) := (blk_cell BK418.out 8).trans rfl; have hfz17_0 := blk_frozen BK418.out 0; have hfz17_1 := blk_frozen BK418.out 1; have hfz17_2 := blk_frozen BK418.out 2; have hfz17_3 := blk_frozen BK418.out 3; have hfz17_4 := blk_frozen BK418.out 4; have hfz17_5 := blk_frozen BK418.out 5; have hfz17_6 := blk_frozen BK418.out 6; have hfz17_7 := blk_frozen BK418.out 7; have hfz17_8 := blk_frozen BK418.out 8) | (go_at_call 39; (with_reducible refine (spec_ShotWindows.calls k t408 t409 t410 t411 t412 t413 t414 t415 t416 t417 t423 t426 _ A6.out).mono ?_); rintro e w18 ⟨v424, rfl, ho0, hb⟩; have n0_ := Aside0.mk (Kd.S_elder' (by (with_reducible repeat (first | apply Kd.S_alloc | apply Kd.S_drewN | apply Kd.S_drew)); exact HO421.out) (Kd.S_base ho0) hb); have n1_ := Aside0.mk (Kd.S_lower (Kd.S_new' ho0 (Kd.S_lt (by (with_reducible repeat (first | apply Kd.S_alloc | apply Kd.S_drewN | apply Kd.S_drew)); exact HO421.out))) (below_size (by repeat (first | (with_reducible first | exact HB.out | apply lA | apply lN | apply lD | refine below_set ?_ GE418.out) | exact HB.out)))); have n2_ := Aside0.mk (blk_below (g := gb418) (o := .cells #[.string t408, .int .i64 t409, .int .i64 t410, .int .i64 t411, .int .i64 t412, .int .i64 t413, .int .i64 t414, .int .i64 t415, .int .i64 t416] 26 (0, 0)) (by (with_reducible repeat first | apply bN | apply bD | apply bA); exact BK418.out) hb); have n3_ := Aside0.mk (below_step (by repeat (first | (with_reducible first | exact HB.out | apply lA | apply lN | apply lD | refine below_set ?_ GE418.out) | exact HB.out)) hb); clear HO421; clear BK418; clear HB; have HO421 := n0_; have HO425 := n1_; have BK418 := n2_; have HB := n3_; clear n0_ n1_ n2_ n3_; (try clear hb); (try clear hb2); (try clear hk); (try clear hi); (try clear ho0); have hcz19_0 : w18.cell? ⟨gb418, 0, none⟩ = some (.string t408) := (blk_cell BK418.out 0).trans rfl; have hcz19_1 : w18.cell? ⟨gb418, 1, none⟩ = some (.int .i64 t409) := (blk_cell BK418.out 1).trans rfl; have hcz19_2 : w18.cell? ⟨gb418, 2, none⟩ = some (.int .i64 t410) := (blk_cell BK418.out 2).trans rfl; have hcz19_3 : w18.cell? ⟨gb418, 3, none⟩ = some (.int .i64 t411) := (blk_cell BK418.out 3).trans rfl; have hcz19_4 : w18.cell? ⟨gb418, 4, none⟩ = some (.int .i64 t412) := (blk_cell BK418.out 4).trans rfl; have hcz19_5 : w18.cell? ⟨gb418, 5, none⟩ = some (.int .i64 t413) := (blk_cell BK418.out 5).trans rfl; have hcz19_6 : w18.cell? ⟨gb418, 6, none⟩ = some (.int .i64 t414) := (blk_cell BK418.out 6).trans rfl; have hcz19_7 : w18.cell? ⟨gb418, 7, none⟩ = some (.int .i64 t415) := (blk_cell BK418.out 7).trans rfl; have hcz19_8 : w18.cell? ⟨gb418, 8, none⟩ = some (.int .i64 t416) := (blk_cell BK418.out 8).trans rfl; have hfz19_0 := blk_frozen BK418.out 0; have hfz19_1 := blk_frozen BK418.out 1; have hfz19_2 := blk_frozen BK418.out 2; have hfz19_3 := blk_frozen BK418.out 3; have hfz19_4 := blk_frozen BK418.out 4; have hfz19_5 := blk_frozen BK418.out 5; have hfz19_6 := blk_frozen BK418.out 6; have hfz19_7 := blk_frozen BK418.out 7; have hfz19_8 := blk_frozen BK418.out 8) | (go_at_call 27; (with_reducible refine (impl_LengthOf.calls k t408 t409 t410 t411 t412 t413 t414 t415 t416 t427 t428 _ A7.out).mono ?_); rintro e w20 ⟨rfl, hb⟩; have n0_ := Aside0.mk (Kd.S_below (by (with_reducible repeat (first | apply Kd.S_alloc | apply Kd.S_drewN | apply Kd.S_drew)); exact HO421.out) hb); have n1_ := Aside0.mk (Kd.S_below (by (with_reducible repeat (first | apply Kd.S_alloc | apply Kd.S_drewN | apply Kd.S_drew)); exact HO425.out) hb); have n2_ := Aside0.mk (blk_below (g := gb418) (o := .cells #[.string t408, .int .i64 t409, .int .i64 t410, .int .i64 t411, .int .i64 t412, .int .i64 t413, .int .i64 t414, .int .i64 t415, .int .i64 t416] 26 (0, 0)) (by (with_reducible repeat first | apply bN | apply bD | apply bA); exact BK418.out) hb); have n3_ := Aside0.mk (below_step (by repeat (first | (with_reducible first | exact HB.out | apply lA | apply lN | apply lD | refine below_set ?_ GE418.out) | exact HB.out)) hb); clear HO421; clear HO425; clear BK418; clear HB; have HO421 := n0_; have HO425 := n1_; have BK418 := n2_; have HB := n3_; clear n0_ n1_ n2_ n3_; (try clear hb); (try clear hb2); (try clear hk); (try clear hi); have hcz21_0 : w20.cell? ⟨gb418, 0, none⟩ = some (.string t408) := (blk_cell BK418.out 0).trans rfl; have hcz21_1 : w20.cell? ⟨gb418, 1, none⟩ = some (.int .i64 t409) := (blk_cell BK418.out 1).trans rfl; have hcz21_2 : w20.cell? ⟨gb418, 2, none⟩ = some (.int .i64 t410) := (blk_cell BK418.out 2).trans rfl; have hcz21_3 : w20.cell? ⟨gb418, 3, none⟩ = some (.int .i64 t411) := (blk_cell BK418.out 3).trans rfl; have hcz21_4 : w20.cell? ⟨gb418, 4, none⟩ = some (.int .i64 t412) := (blk_cell BK418.out 4).trans rfl; have hcz21_5 : w20.cell? ⟨gb418, 5, none⟩ = some (.int .i64 t413) := (blk_cell BK418.out 5).trans rfl; have hcz21_6 : w20.cell? ⟨gb418, 6, none⟩ = some (.int .i64 t414) := (blk_cell BK418.out 6).trans rfl; have hcz21_7 : w20.cell? ⟨gb418, 7, none⟩ = some (.int .i64 t415) := (blk_cell BK418.out 7).trans rfl; have hcz21_8 : w20.cell? ⟨gb418, 8, none⟩ = some (.int .i64 t416) := (blk_cell BK418.out 8).trans rfl; have hfz21_0 := blk_frozen BK418.out 0; have hfz21_1 := blk_frozen BK418.out 1; have hfz21_2 := blk_frozen BK418.out 2; have hfz21_3 := blk_frozen BK418.out 3; have hfz21_4 := blk_frozen BK418.out 4; have hfz21_5 := blk_frozen BK418.out 5; have hfz21_6 := blk_frozen BK418.out 6; have hfz21_7 := blk_frozen BK418.out 7; have hfz21_8 := blk_frozen BK418.out 8) | (go_at_call 26; (with_reducible refine (spec_LengthOf.calls k t408 t409 t410 t411 t412 t413 t414 t415 t416 t429 t430 _ A8.out).mono ?_); rintro e w22 ⟨rfl, hb⟩; have n0_ := Aside0.mk (Kd.S_below (by (with_reducible repeat (first | apply Kd.S_alloc | apply Kd.S_drewN | apply Kd.S_drew)); exact HO421.out) hb); have n1_ := Aside0.mk (Kd.S_below (by (with_reducible repeat (first | apply Kd.S_alloc | apply Kd.S_drewN | apply Kd.S_drew)); exact HO425.out) hb); have n2_ := Aside0.mk (blk_below (g := gb418) (o := .cells #[.string t408, .int .i64 t409, .int .i64 t410, .int .i64 t411, .int .i64 t412, .int .i64 t413, .int .i64 t414, .int .i64 t415, .int .i64 t416] 26 (0, 0)) (by (with_reducible repeat first | apply bN | apply bD | apply bA); exact BK418.out) hb); have n3_ := Aside0.mk (below_step (by repeat (first | (with_reducible first | exact HB.out | apply lA | apply lN | apply lD | refine below_set ?_ GE418.out) | exact HB.out)) hb); clear HO421; clear HO425; clear BK418; clear HB; have HO421 := n0_; have HO425 := n1_; have BK418 := n2_; have HB := n3_; clear n0_ n1_ n2_ n3_; (try clear hb); (try clear hb2); (try clear hk); (try clear hi)) | (go_at_call 52; (with_reducible refine (spec_DrawFindArticle.calls k _ _ l0 t431 t432 _ ?side1 ?side2 A9.out).mono ?_); (case side1 => repeat (first | exact (Kd.C_below HR0.out HB.out) | (with_reducible first | apply cA | apply cN | apply cD))); (case side2 => exact HC0.out); rintro e w23 ⟨v433, rfl, ho0, hb⟩; have n0_ := Aside0.mk (Kd.S_below (by (with_reducible repeat (first | apply Kd.S_alloc | apply Kd.S_drewN | apply Kd.S_drew)); exact HO421.out) hb); have n1_ := Aside0.mk (Kd.S_below (by (with_reducible repeat (first | apply Kd.S_alloc | apply Kd.S_drewN | apply Kd.S_drew)); exact HO425.out) hb); have n2_ := Aside0.mk (Kd.R_lower (Kd.R_newB ho0 (g := gb418) (o := .cells #[.string t408, .int .i64 t409, .int .i64 t410, .int .i64 t411, .int .i64 t412, .int .i64 t413, .int .i64 t414, .int .i64 t415, .int .i64 t416] 26 (0, 0)) (by (with_reducible repeat first | apply bN | apply bD | apply bA); exact BK418.out)) (below_size (by repeat (first | (with_reducible first | exact HB.out | apply lA | apply lN | apply lD | refine below_set ?_ GE418.out) | exact HB.out)))); have n3_ := Aside0.mk (blk_below (g := gb418) (o := .cells #[.string t408, .int .i64 t409, .int .i64 t410, .int .i64 t411, .int .i64 t412, .int .i64 t413, .int .i64 t414, .int .i64 t415, .int .i64 t416] 26 (0, 0)) (by (with_reducible repeat first | apply bN | apply bD | apply bA); exact BK418.out) hb); have n4_ := Aside0.mk (below_step (by repeat (first | (with_reducible first | exact HB.out | apply lA | apply lN | apply lD | refine below_set ?_ GE418.out) | exact HB.out)) hb); clear HO421; clear HO425; clear BK418; clear HB; have HO421 := n0_; have HO425 := n1_; have HO434 := n2_; have BK418 := n3_; have HB := n4_; clear n0_ n1_ n2_ n3_ n4_; (try clear hb); (try clear hb2); (try clear hk); (try clear hi); (try clear ho0); obtain ⟨Ao24, co24, eo24⟩ := Kd.R_slice HO434.out; subst eo24) | (go_at_call 48; (with_reducible refine (impl_FindArticle.calls k _ _ t431 t432 t435 t436 _ ?side1 ?side2 A10.out).mono ?_); (case side1 => repeat (first | exact (Kd.R_reads' HO434.out).2.2 | (with_reducible first | apply cA | apply cN | apply cD))); (case side2 => exact (Kd.R_reads' HO434.out).2.1); rintro e w25 ⟨rfl, hb⟩; have n0_ := Aside0.mk (Kd.S_below (by (with_reducible repeat (first | apply Kd.S_alloc | apply Kd.S_drewN | apply Kd.S_drew)); exact HO421.out) hb); have n1_ := Aside0.mk (Kd.S_below (by (with_reducible repeat (first | apply Kd.S_alloc | apply Kd.S_drewN | apply Kd.S_drew)); exact HO425.out) hb); have n2_ := Aside0.mk (Kd.R_below (by (with_reducible repeat (first | apply rA | apply rN | apply rD)); exact HO434.out) hb); have n3_ := Aside0.mk (blk_below (g := gb418) (o := .cells #[.string t408, .int .i64 t409, .int .i64 t410, .int .i64 t411, .int .i64 t412, .int .i64 t413, .int .i64 t414, .int .i64 t415, .int .i64 t416] 26 (0, 0)) (by (with_reducible repeat first | apply bN | apply bD | apply bA); exact BK418.out) hb); have n4_ := Aside0.mk (below_step (by repeat (first | (with_reducible first | exact HB.out | apply lA | apply lN | apply lD | refine below_set ?_ GE418.out) | exact HB.out)) hb); clear HO421; clear HO425; clear HO434; clear BK418; clear HB; have HO421 := n0_; have HO425 := n1_; have HO434 := n2_; have BK418 := n3_; have HB := n4_; clear n0_ n1_ n2_ n3_ n4_; (try clear hb); (try clear hb2); (try clear hk); (try clear hi)) | (go_at_call 47; (with_reducible refine (spec_FindArticle.calls k _ _ t431 t432 t437 t438 _ ?side1 ?side2 A11.out).mono ?_); (case side1 => repeat (first | exact (Kd.R_reads' HO434.out).2.2 | (with_reducible first | apply cA | apply cN | apply cD))); (case side2 => exact (Kd.R_reads' HO434.out).2.1); rintro e w26 ⟨rfl, hb⟩; have n0_ := Aside0.mk (Kd.S_below (by (with_reducible repeat (first | apply Kd.S_alloc | apply Kd.S_drewN | apply Kd.S_drew)); exact HO421.out) hb); have n1_ := Aside0.mk (Kd.S_below (by (with_reducible repeat (first | apply Kd.S_alloc | apply Kd.S_drewN | apply Kd.S_drew)); exact HO425.out) hb); have n2_ := Aside0.mk (Kd.R_below (by (with_reducible repeat (first | apply rA | apply rN | apply rD)); exact HO434.out) hb); have n3_ := Aside0.mk (blk_below (g := gb418) (o := .cells #[.string t408, .int .i64 t409, .int .i64 t410, .int .i64 t411, .int .i64 t412, .int .i64 t413, .int .i64 t414, .int .i64 t415, .int .i64 t416] 26 (0, 0)) (by (with_reducible repeat first | apply bN | apply bD | apply bA); exact BK418.out) hb); have n4_ := Aside0.mk (below_step (by repeat (first | (with_reducible first | exact HB.out | apply lA | apply lN | apply lD | refine below_set ?_ GE418.out) | exact HB.out)) hb); clear HO421; clear HO425; clear HO434; clear BK418; clear HB; have HO421 := n0_; have HO425 := n1_; have HO434 := n2_; have BK418 := n3_; have HB := n4_; clear n0_ n1_ n2_ n3_ n4_; (try clear hb); (try clear hb2); (try clear hk); (try clear hi))); go_upto_region 11 with (first | (go_at_call 19; (with_reducible refine (laws_big.calls _ _ l0 false _ ?side1 ?side2 A2.out).mono ?_); (case side1 => repeat (first | exact HR0.out | (with_reducible first | apply cA | apply cN | apply cD))); (case side2 => exact HC0.out); rintro e w' ⟨rfl, ⟨nd, rfl⟩⟩; (try first | exact ⟨rfl, _, World.drewN_drewN _ _ _⟩ | exact ⟨rfl, _, Eq.trans (World.drewN_drewN _ _ _) (congrArg (World.drewN _) (Nat.add_assoc _ _ _))⟩)) | (go_at_call 51; (with_reducible refine (spec_DrawShotWindows.calls k _ _ l0 t408 t409 t410 t411 t412 t413 t414 t415 t416 t417 _ ?side1 ?side2 A4.out).mono ?_); (case side1 => repeat (first | exact HR0.out | (with_reducible first | apply cA | apply cN | apply cD))); (case side2 => exact HC0.out); rintro e w13 ⟨rfl, hb⟩; have n0_ := Aside0.mk (below_step (by repeat (first | (with_reducible first | exact HB.out | apply lA | apply lN | apply lD) | exact HB.out)) hb); clear HB; have HB := n0_; clear n0_; (try clear hb); (try clear hb2); (try clear hk); (try clear hi)) | ((with_reducible refine gate_dst (N := 3) rfl ?_); (try (refine gate_guard (by rfl) ?_; dsimp only)); refine box_event ?hg (N := 3) ?hd (cs := #[.string (⟨#[]⟩ : ByteArray), .int .i64 0, .int .i64 0, .int .i64 0, .int .i64 0, .int .i64 0, .int .i64 0, .int .i64 0, .int .i64 0]) (t := 26) ?hr ?_; (case hd => rfl); (case hg => rfl); (case hr => first | (go_simp; done) | (go_simp; rfl)); intro gb418 hg w14 hbox hb; have n0_ := Aside0.mk (below_step (by repeat (first | (with_reducible first | exact HB.out | apply lA | apply lN | apply lD) | exact HB.out)) hb); have n1_ := Aside0.mk (hbox); have n2_ := Aside0.mk ((by rw [hg]; exact (below_size (by repeat (first | (with_reducible first | exact HB.out | apply lA | apply lN | apply lD) | exact HB.out))) : w.heap.size ≤ gb418)); have n3_ := Aside0.mk ((by rw [hg]; exact (below_size (by repeat (first | (with_reducible first | exact HB.out | apply lA | apply lN | apply lD) | exact HB.out))) : w.heap.size ≤ gb418)); clear HB; have HB := n0_; have BK418 := n1_; have GW418 := n2_; have GE418 := n3_; clear n0_ n1_ n2_ n3_; clear hb hbox hg; have hcz15_0 : w14.cell? ⟨gb418, 0, none⟩ = some (.string (⟨#[]⟩ : ByteArray)) := (blk_cell BK418.out 0).trans rfl; have hcz15_1 : w14.cell? ⟨gb418, 1, none⟩ = some (.int .i64 0) := (blk_cell BK418.out 1).trans rfl; have hcz15_2 : w14.cell? ⟨gb418, 2, none⟩ = some (.int .i64 0) := (blk_cell BK418.out 2).trans rfl; have hcz15_3 : w14.cell? ⟨gb418, 3, none⟩ = some (.int .i64 0) := (blk_cell BK418.out 3).trans rfl; have hcz15_4 : w14.cell? ⟨gb418, 4, none⟩ = some (.int .i64 0) := (blk_cell BK418.out 4).trans rfl; have hcz15_5 : w14.cell? ⟨gb418, 5, none⟩ = some (.int .i64 0) := (blk_cell BK418.out 5).trans rfl; have hcz15_6 : w14.cell? ⟨gb418, 6, none⟩ = some (.int .i64 0) := (blk_cell BK418.out 6).trans rfl; have hcz15_7 : w14.cell? ⟨gb418, 7, none⟩ = some (.int .i64 0) := (blk_cell BK418.out 7).trans rfl; have hcz15_8 : w14.cell? ⟨gb418, 8, none⟩ = some (.int .i64 0) := (blk_cell BK418.out 8).trans rfl; have hfz15_0 := blk_frozen BK418.out 0; have hfz15_1 := blk_frozen BK418.out 1; have hfz15_2 := blk_frozen BK418.out 2; have hfz15_3 := blk_frozen BK418.out 3; have hfz15_4 := blk_frozen BK418.out 4; have hfz15_5 := blk_frozen BK418.out 5; have hfz15_6 := blk_frozen BK418.out 6; have hfz15_7 := blk_frozen BK418.out 7; have hfz15_8 := blk_frozen BK418.out 8) | (go_at_call 40; (with_reducible refine (impl_ShotWindows.calls k t408 t409 t410 t411 t412 t413 t414 t415 t416 t417 t419 t422 _ A5.out).mono ?_); rintro e w16 ⟨v420, rfl, ho0, hb⟩; have n0_ := Aside0.mk (Kd.S_lower ho0 (below_size (by repeat (first | (with_reducible first | exact HB.out | apply lA | apply lN | apply lD | refine below_set ?_ GE418.out) | exact HB.out)))); have n1_ := Aside0.mk (blk_below (g := gb418) (o := .cells #[.string t408, .int .i64 t409, .int .i64 t410, .int .i64 t411, .int .i64 t412, .int .i64 t413, .int .i64 t414, .int .i64 t415, .int .i64 t416] 26 (0, 0)) (by (with_reducible repeat first | apply bN | apply bD | apply bA); refine blk_put (cs := #[.string t408, .int .i64 t409, .int .i64 t410, .int .i64 t411, .int .i64 t412, .int .i64 t413, .int .i64 t414, .int .i64 t415, .int .i64 0]) ?_ 8 _ rfl; (with_reducible repeat first | apply bN | apply bD | apply bA); refine blk_put (cs := #[.string t408, .int .i64 t409, .int .i64 t410, .int .i64 t411, .int .i64 t412, .int .i64 t413, .int .i64 t414, .int .i64 0, .int .i64 0]) ?_ 7 _ rfl; (with_reducible repeat first | apply bN | apply bD | apply bA); refine blk_put (cs := #[.string t408, .int .i64 t409, .int .i64 t410, .int .i64 t411, .int .i64 t412, .int .i64 t413, .int .i64 0, .int .i64 0, .int .i64 0]) ?_ 6 _ rfl; (with_reducible repeat first | apply bN | apply bD | apply bA); refine blk_put (cs := #[.string t408, .int .i64 t409, .int .i64 t410, .int .i64 t411, .int .i64 t412, .int .i64 0, .int .i64 0, .int .i64 0, .int .i64 0]) ?_ 5 _ rfl; (with_reducible repeat first | apply bN | apply bD | apply bA); refine blk_put (cs := #[.string t408, .int .i64 t409, .int .i64 t410, .int .i64 t411, .int .i64 0, .int .i64 0, .int .i64 0, .int .i64 0, .int .i64 0]) ?_ 4 _ rfl; (with_reducible repeat first | apply bN | apply bD | apply bA); refine blk_put (cs := #[.string t408, .int .i64 t409, .int .i64 t410, .int .i64 0, .int .i64 0, .int .i64 0, .int .i64 0, .int .i64 0, .int .i64 0]) ?_ 3 _ rfl; (with_reducible repeat first | apply bN | apply bD | apply bA); refine blk_put (cs := #[.string t408, .int .i64 t409, .int .i64 0, .int .i64 0, .int .i64 0, .int .i64 0, .int .i64 0, .int .i64 0, .int .i64 0]) ?_ 2 _ rfl; (with_reducible repeat first | apply bN | apply bD | apply bA); refine blk_put (cs := #[.string t408, .int .i64 0, .int .i64 0, .int .i64 0, .int .i64 0, .int .i64 0, .int .i64 0, .int .i64 0, .int .i64 0]) ?_ 1 _ rfl; (with_reducible repeat first | apply bN | apply bD | apply bA); refine blk_put (cs := #[.string (⟨#[]⟩ : ByteArray), .int .i64 0, .int .i64 0, .int .i64 0, .int .i64 0, .int .i64 0, .int .i64 0, .int .i64 0, .int .i64 0]) ?_ 0 _ rfl; (with_reducible repeat first | apply bN | apply bD | apply bA); exact BK418.out) hb); have n2_ := Aside0.mk (below_step (by repeat (first | (with_reducible first | exact HB.out | apply lA | apply lN | apply lD | refine below_set ?_ GE418.out) | exact HB.out)) hb); clear BK418; clear HB; have HO421 := n0_; have BK418 := n1_; have HB := n2_; clear n0_ n1_ n2_; (try clear hb); (try clear hb2); (try clear hk); (try clear hi); (try clear ho0); have hcz17_0 : w16.cell? ⟨gb418, 0, none⟩ = some (.string t408) := (blk_cell BK418.out 0).trans rfl; have hcz17_1 : w16.cell? ⟨gb418, 1, none⟩ = some (.int .i64 t409) := (blk_cell BK418.out 1).trans rfl; have hcz17_2 : w16.cell? ⟨gb418, 2, none⟩ = some (.int .i64 t410) := (blk_cell BK418.out 2).trans rfl; have hcz17_3 : w16.cell? ⟨gb418, 3, none⟩ = some (.int .i64 t411) := (blk_cell BK418.out 3).trans rfl; have hcz17_4 : w16.cell? ⟨gb418, 4, none⟩ = some (.int .i64 t412) := (blk_cell BK418.out 4).trans rfl; have hcz17_5 : w16.cell? ⟨gb418, 5, none⟩ = some (.int .i64 t413) := (blk_cell BK418.out 5).trans rfl; have hcz17_6 : w16.cell? ⟨gb418, 6, none⟩ = some (.int .i64 t414) := (blk_cell BK418.out 6).trans rfl; have hcz17_7 : w16.cell? ⟨gb418, 7, none⟩ = some (.int .i64 t415) := (blk_cell BK418.out 7).trans rfl; have hcz17_8 : w16.cell? ⟨gb418, 8, none⟩ = some (.int .i64 t416) := (blk_cell BK418.out 8).trans rfl; have hfz17_0 := blk_frozen BK418.out 0; have hfz17_1 := blk_frozen BK418.out 1; have hfz17_2 := blk_frozen BK418.out 2; have hfz17_3 := blk_frozen BK418.out 3; have hfz17_4 := blk_frozen BK418.out 4; have hfz17_5 := blk_frozen BK418.out 5; have hfz17_6 := blk_frozen BK418.out 6; have hfz17_7 := blk_frozen BK418.out 7; have hfz17_8 := blk_frozen BK418.out 8) | (go_at_call 39; (with_reducible refine (spec_ShotWindows.calls k t408 t409 t410 t411 t412 t413 t414 t415 t416 t417 t423 t426 _ A6.out).mono ?_); rintro e w18 ⟨v424, rfl, ho0, hb⟩; have n0_ := Aside0.mk (Kd.S_elder' (by (with_reducible repeat (first | apply Kd.S_alloc | apply Kd.S_drewN | apply Kd.S_drew)); exact HO421.out) (Kd.S_base ho0) hb); have n1_ := Aside0.mk (Kd.S_lower (Kd.S_new' ho0 (Kd.S_lt (by (with_reducible repeat (first | apply Kd.S_alloc | apply Kd.S_drewN | apply Kd.S_drew)); exact HO421.out))) (below_size (by repeat (first | (with_reducible first | exact HB.out | apply lA | apply lN | apply lD | refine below_set ?_ GE418.out) | exact HB.out)))); have n2_ := Aside0.mk (blk_below (g := gb418) (o := .cells #[.string t408, .int .i64 t409, .int .i64 t410, .int .i64 t411, .int .i64 t412, .int .i64 t413, .int .i64 t414, .int .i64 t415, .int .i64 t416] 26 (0, 0)) (by (with_reducible repeat first | apply bN | apply bD | apply bA); exact BK418.out) hb); have n3_ := Aside0.mk (below_step (by repeat (first | (with_reducible first | exact HB.out | apply lA | apply lN | apply lD | refine below_set ?_ GE418.out) | exact HB.out)) hb); clear HO421; clear BK418; clear HB; have HO421 := n0_; have HO425 := n1_; have BK418 := n2_; have HB := n3_; clear n0_ n1_ n2_ n3_; (try clear hb); (try clear hb2); (try clear hk); (try clear hi); (try clear ho0); have hcz19_0 : w18.cell? ⟨gb418, 0, none⟩ = some (.string t408) := (blk_cell BK418.out 0).trans rfl; have hcz19_1 : w18.cell? ⟨gb418, 1, none⟩ = some (.int .i64 t409) := (blk_cell BK418.out 1).trans rfl; have hcz19_2 : w18.cell? ⟨gb418, 2, none⟩ = some (.int .i64 t410) := (blk_cell BK418.out 2).trans rfl; have hcz19_3 : w18.cell? ⟨gb418, 3, none⟩ = some (.int .i64 t411) := (blk_cell BK418.out 3).trans rfl; have hcz19_4 : w18.cell? ⟨gb418, 4, none⟩ = some (.int .i64 t412) := (blk_cell BK418.out 4).trans rfl; have hcz19_5 : w18.cell? ⟨gb418, 5, none⟩ = some (.int .i64 t413) := (blk_cell BK418.out 5).trans rfl; have hcz19_6 : w18.cell? ⟨gb418, 6, none⟩ = some (.int .i64 t414) := (blk_cell BK418.out 6).trans rfl; have hcz19_7 : w18.cell? ⟨gb418, 7, none⟩ = some (.int .i64 t415) := (blk_cell BK418.out 7).trans rfl; have hcz19_8 : w18.cell? ⟨gb418, 8, none⟩ = some (.int .i64 t416) := (blk_cell BK418.out 8).trans rfl; have hfz19_0 := blk_frozen BK418.out 0; have hfz19_1 := blk_frozen BK418.out 1; have hfz19_2 := blk_frozen BK418.out 2; have hfz19_3 := blk_frozen BK418.out 3; have hfz19_4 := blk_frozen BK418.out 4; have hfz19_5 := blk_frozen BK418.out 5; have hfz19_6 := blk_frozen BK418.out 6; have hfz19_7 := blk_frozen BK418.out 7; have hfz19_8 := blk_frozen BK418.out 8) | (go_at_call 27; (with_reducible refine (impl_LengthOf.calls k t408 t409 t410 t411 t412 t413 t414 t415 t416 t427 t428 _ A7.out).mono ?_); rintro e w20 ⟨rfl, hb⟩; have n0_ := Aside0.mk (Kd.S_below (by (with_reducible repeat (first | apply Kd.S_alloc | apply Kd.S_drewN | apply Kd.S_drew)); exact HO421.out) hb); have n1_ := Aside0.mk (Kd.S_below (by (with_reducible repeat (first | apply Kd.S_alloc | apply Kd.S_drewN | apply Kd.S_drew)); exact HO425.out) hb); have n2_ := Aside0.mk (blk_below (g := gb418) (o := .cells #[.string t408, .int .i64 t409, .int .i64 t410, .int .i64 t411, .int .i64 t412, .int .i64 t413, .int .i64 t414, .int .i64 t415, .int .i64 t416] 26 (0, 0)) (by (with_reducible repeat first | apply bN | apply bD | apply bA); exact BK418.out) hb); have n3_ := Aside0.mk (below_step (by repeat (first | (with_reducible first | exact HB.out | apply lA | apply lN | apply lD | refine below_set ?_ GE418.out) | exact HB.out)) hb); clear HO421; clear HO425; clear BK418; clear HB; have HO421 := n0_; have HO425 := n1_; have BK418 := n2_; have HB := n3_; clear n0_ n1_ n2_ n3_; (try clear hb); (try clear hb2); (try clear hk); (try clear hi); have hcz21_0 : w20.cell? ⟨gb418, 0, none⟩ = some (.string t408) := (blk_cell BK418.out 0).trans rfl; have hcz21_1 : w20.cell? ⟨gb418, 1, none⟩ = some (.int .i64 t409) := (blk_cell BK418.out 1).trans rfl; have hcz21_2 : w20.cell? ⟨gb418, 2, none⟩ = some (.int .i64 t410) := (blk_cell BK418.out 2).trans rfl; have hcz21_3 : w20.cell? ⟨gb418, 3, none⟩ = some (.int .i64 t411) := (blk_cell BK418.out 3).trans rfl; have hcz21_4 : w20.cell? ⟨gb418, 4, none⟩ = some (.int .i64 t412) := (blk_cell BK418.out 4).trans rfl; have hcz21_5 : w20.cell? ⟨gb418, 5, none⟩ = some (.int .i64 t413) := (blk_cell BK418.out 5).trans rfl; have hcz21_6 : w20.cell? ⟨gb418, 6, none⟩ = some (.int .i64 t414) := (blk_cell BK418.out 6).trans rfl; have hcz21_7 : w20.cell? ⟨gb418, 7, none⟩ = some (.int .i64 t415) := (blk_cell BK418.out 7).trans rfl; have hcz21_8 : w20.cell? ⟨gb418, 8, none⟩ = some (.int .i64 t416) := (blk_cell BK418.out 8).trans rfl; have hfz21_0 := blk_frozen BK418.out 0; have hfz21_1 := blk_frozen BK418.out 1; have hfz21_2 := blk_frozen BK418.out 2; have hfz21_3 := blk_frozen BK418.out 3; have hfz21_4 := blk_frozen BK418.out 4; have hfz21_5 := blk_frozen BK418.out 5; have hfz21_6 := blk_frozen BK418.out 6; have hfz21_7 := blk_frozen BK418.out 7; have hfz21_8 := blk_frozen BK418.out 8) | (go_at_call 26; (with_reducible refine (spec_LengthOf.calls k t408 t409 t410 t411 t412 t413 t414 t415 t416 t429 t430 _ A8.out).mono ?_); rintro e w22 ⟨rfl, hb⟩; have n0_ := Aside0.mk (Kd.S_below (by (with_reducible repeat (first | apply Kd.S_alloc | apply Kd.S_drewN | apply Kd.S_drew)); exact HO421.out) hb); have n1_ := Aside0.mk (Kd.S_below (by (with_reducible repeat (first | apply Kd.S_alloc | apply Kd.S_drewN | apply Kd.S_drew)); exact HO425.out) hb); have n2_ := Aside0.mk (blk_below (g := gb418) (o := .cells #[.string t408, .int .i64 t409, .int .i64 t410, .int .i64 t411, .int .i64 t412, .int .i64 t413, .int .i64 t414, .int .i64 t415, .int .i64 t416] 26 (0, 0)) (by (with_reducible repeat first | apply bN | apply bD | apply bA); exact BK418.out) hb); have n3_ := Aside0.mk (below_step (by repeat (first | (with_reducible first | exact HB.out | apply lA | apply lN | apply lD | refine below_set ?_ GE418.out) | exact HB.out)) hb); clear HO421; clear HO425; clear BK418; clear HB; have HO421 := n0_; have HO425 := n1_; have BK418 := n2_; have HB := n3_; clear n0_ n1_ n2_ n3_; (try clear hb); (try clear hb2); (try clear hk); (try clear hi)) | (go_at_call 52; (with_reducible refine (spec_DrawFindArticle.calls k _ _ l0 t431 t432 _ ?side1 ?side2 A9.out).mono ?_); (case side1 => repeat (first | exact (Kd.C_below HR0.out HB.out) | (with_reducible first | apply cA | apply cN | apply cD))); (case side2 => exact HC0.out); rintro e w23 ⟨v433, rfl, ho0, hb⟩; have n0_ := Aside0.mk (Kd.S_below (by (with_reducible repeat (first | apply Kd.S_alloc | apply Kd.S_drewN | apply Kd.S_drew)); exact HO421.out) hb); have n1_ := Aside0.mk (Kd.S_below (by (with_reducible repeat (first | apply Kd.S_alloc | apply Kd.S_drewN | apply Kd.S_drew)); exact HO425.out) hb); have n2_ := Aside0.mk (Kd.R_lower (Kd.R_newB ho0 (g := gb418) (o := .cells #[.string t408, .int .i64 t409, .int .i64 t410, .int .i64 t411, .int .i64 t412, .int .i64 t413, .int .i64 t414, .int .i64 t415, .int .i64 t416] 26 (0, 0)) (by (with_reducible repeat first | apply bN | apply bD | apply bA); exact BK418.out)) (below_size (by repeat (first | (with_reducible first | exact HB.out | apply lA | apply lN | apply lD | refine below_set ?_ GE418.out) | exact HB.out)))); have n3_ := Aside0.mk (blk_below (g := gb418) (o := .cells #[.string t408, .int .i64 t409, .int .i64 t410, .int .i64 t411, .int .i64 t412, .int .i64 t413, .int .i64 t414, .int .i64 t415, .int .i64 t416] 26 (0, 0)) (by (with_reducible repeat first | apply bN | apply bD | apply bA); exact BK418.out) hb); have n4_ := Aside0.mk (below_step (by repeat (first | (with_reducible first | exact HB.out | apply lA | apply lN | apply lD | refine below_set ?_ GE418.out) | exact HB.out)) hb); clear HO421; clear HO425; clear BK418; clear HB; have HO421 := n0_; have HO425 := n1_; have HO434 := n2_; have BK418 := n3_; have HB := n4_; clear n0_ n1_ n2_ n3_ n4_; (try clear hb); (try clear hb2); (try clear hk); (try clear hi); (try clear ho0); obtain ⟨Ao24, co24, eo24⟩ := Kd.R_slice HO434.out; subst eo24) | (go_at_call 48; (with_reducible refine (impl_FindArticle.calls k _ _ t431 t432 t435 t436 _ ?side1 ?side2 A10.out).mono ?_); (case side1 => repeat (first | exact (Kd.R_reads' HO434.out).2.2 | (with_reducible first | apply cA | apply cN | apply cD))); (case side2 => exact (Kd.R_reads' HO434.out).2.1); rintro e w25 ⟨rfl, hb⟩; have n0_ := Aside0.mk (Kd.S_below (by (with_reducible repeat (first | apply Kd.S_alloc | apply Kd.S_drewN | apply Kd.S_drew)); exact HO421.out) hb); have n1_ := Aside0.mk (Kd.S_below (by (with_reducible repeat (first | apply Kd.S_alloc | apply Kd.S_drewN | apply Kd.S_drew)); exact HO425.out) hb); have n2_ := Aside0.mk (Kd.R_below (by (with_reducible repeat (first | apply rA | apply rN | apply rD)); exact HO434.out) hb); have n3_ := Aside0.mk (blk_below (g := gb418) (o := .cells #[.string t408, .int .i64 t409, .int .i64 t410, .int .i64 t411, .int .i64 t412, .int .i64 t413, .int .i64 t414, .int .i64 t415, .int .i64 t416] 26 (0, 0)) (by (with_reducible repeat first | apply bN | apply bD | apply bA); exact BK418.out) hb); have n4_ := Aside0.mk (below_step (by repeat (first | (with_reducible first | exact HB.out | apply lA | apply lN | apply lD | refine below_set ?_ GE418.out) | exact HB.out)) hb); clear HO421; clear HO425; clear HO434; clear BK418; clear HB; have HO421 := n0_; have HO425 := n1_; have HO434 := n2_; have BK418 := n3_; have HB := n4_; clear n0_ n1_ n2_ n3_ n4_; (try clear hb); (try clear hb2); (try clear hk); (try clear hi)) | (go_at_call 47; (with_reducible refine (spec_FindArticle.calls k _ _ t431 t432 t437 t438 _ ?side1 ?side2 A11.out).mono ?_); (case side1 => repeat (first | exact (Kd.R_reads' HO434.out).2.2 | (with_reducible first | apply cA | apply cN | apply cD))); (case side2 => exact (Kd.R_reads' HO434.out).2.1); rintro e w26 ⟨rfl, hb⟩; have n0_ := Aside0.mk (Kd.S_below (by (with_reducible repeat (first | apply Kd.S_alloc | apply Kd.S_drewN | apply Kd.S_drew)); exact HO421.out) hb); have n1_ := Aside0.mk (Kd.S_below (by (with_reducible repeat (first | apply Kd.S_alloc | apply Kd.S_drewN | apply Kd.S_drew)); exact HO425.out) hb); have n2_ := Aside0.mk (Kd.R_below (by (with_reducible repeat (first | apply rA | apply rN | apply rD)); exact HO434.out) hb); have n3_ := Aside0.mk (blk_below (g := gb418) (o := .cells #[.string t408, .int .i64 t409, .int .i64 t410, .int .i64 t411, .int .i64 t412, .int .i64 t413, .int .i64 t414, .int .i64 t415, .int .i64 t416] 26 (0, 0)) (by (with_reducible repeat first | apply bN | apply bD | apply bA); exact BK418.out) hb); have n4_ := Aside0.mk (below_step (by repeat (first | (with_reducible first | exact HB.out | apply lA | apply lN | apply lD | refine below_set ?_ GE418.out) | exact HB.out)) hb); clear HO421; clear HO425; clear HO434; clear BK418; clear HB; have HO421 := n0_; have HO425 := n1_; have HO434 := n2_; have BK418 := n3_; have HB := n4_; clear n0_ n1_ n2_ n3_ n4_; (try clear hb); (try clear hb2); (try clear hk); (try clear hi))))
  (try simp only [Act.put, sT, s0, sS])
  go_cut [108] (fun v108 wc => ∃ (kq : Nat) (x108_11 : Bool), v108 = .bool x108_11 ∧ Aside0 (laws_FnArticles.j0 kq t417 t419 t422 t423 t427 t431 t432 t435 t436 x108_11 t408 t409 t410 t411 t412 t413 t414 t415 t416 = some r) ∧ Aside0 (kq ≤ k) ∧ Aside0 (Kd.S (Kd.slice 2 (Kd.int .i64)) 40 wc w.heap.size (fun k_ => some k_ ≠ (v424 : Value).ownBlock) v420 t419) ∧ Aside0 (Kd.S (Kd.slice 2 (Kd.int .i64)) 40 wc w.heap.size (fun k_ => some k_ ≠ (v420 : Value).ownBlock) v424 t423) ∧ Aside0 (Kd.R k26 26 wc w.heap.size (fun k_ => k_ ≠ gb418) (.slice Ao24 t431.length co24) t431) ∧ Aside0 (wc.heap[gb418]? = some (.cells #[.string t408, .int .i64 t409, .int .i64 t410, .int .i64 t411, .int .i64 t412, .int .i64 t413, .int .i64 t414, .int .i64 t415, .int .i64 t416] 26 (0, 0))) ∧ Aside0 (Below w.heap.size w wc))
  case first =>
   have H := HC12.out
   clear HC12
   by_cases c27 : t422 = t426
   ·
    rw [if_pos c27] at H
    have c27b0 : (t422 == t426) = true := beq_iff_eq.mpr c27
    have c27b1 : (t422 != t426) = false := bne_eq_false_iff_eq.mpr c27
    clear c27
    (first | rw [c27b0] | (simp only [i64_w, i32_w]; rw [c27b0]) | skip)
    replace H := Option.bind_eq_some_iff.mp H
    obtain ⟨t439, A280, H⟩ := H
    replace H : (if t439 = true then (if t428 = t430 then (if t427 = t429 then (if t436 = t438 then (if t435 = t437 then ((impl_IsArticle.f k t408 t409 t410 t411 t412 t413 t414 t415 t416).bind fun t440 => (if (t440 != (t430 == 0)) = true then (laws_FnArticles.j0 k t417 t419 t422 t423 t427 t431 t432 t435 t436 true t408 t409 t410 t411 t412 t413 t414 t415 t416) else ((impl_AreArticles.f k t431).bind fun t441 => ((spec_AreArticles.f k t431).bind fun t442 => (laws_FnArticles.j0 k t417 t419 t422 t423 t427 t431 t432 t435 t436 (t441 != t442) t408 t409 t410 t411 t412 t413 t414 t415 t416))))) else (laws_FnArticles.j0 k t417 t419 t422 t423 t427 t431 t432 t435 t436 true t408 t409 t410 t411 t412 t413 t414 t415 t416)) else (laws_FnArticles.j0 k t417 t419 t422 t423 t427 t431 t432 t435 t436 true t408 t409 t410 t411 t412 t413 t414 t415 t416)) else (laws_FnArticles.j0 k t417 t419 t422 t423 t427 t431 t432 t435 t436 true t408 t409 t410 t411 t412 t413 t414 t415 t416)) else (laws_FnArticles.j0 k t417 t419 t422 t423 t427 t431 t432 t435 t436 true t408 t409 t410 t411 t412 t413 t414 t415 t416)) else (laws_FnArticles.j0 k t417 t419 t422 t423 t427 t431 t432 t435 t436 true t408 t409 t410 t411 t412 t413 t414 t415 t416)) = some r := H
    have A28 := Aside0.mk A280
    clear A280
    by_cases c29 : t439 = true
    ·
     subst c29
     have H1 : (if t428 = t430 then (if t427 = t429 then (if t436 = t438 then (if t435 = t437 then ((impl_IsArticle.f k t408 t409 t410 t411 t412 t413 t414 t415 t416).bind fun t440 => (if (t440 != (t430 == 0)) = true then (laws_FnArticles.j0 k t417 t419 t422 t423 t427 t431 t432 t435 t436 true t408 t409 t410 t411 t412 t413 t414 t415 t416) else ((impl_AreArticles.f k t431).bind fun t441 => ((spec_AreArticles.f k t431).bind fun t442 => (laws_FnArticles.j0 k t417 t419 t422 t423 t427 t431 t432 t435 t436 (t441 != t442) t408 t409 t410 t411 t412 t413 t414 t415 t416))))) else (laws_FnArticles.j0 k t417 t419 t422 t423 t427 t431 t432 t435 t436 true t408 t409 t410 t411 t412 t413 t414 t415 t416)) else (laws_FnArticles.j0 k t417 t419 t422 t423 t427 t431 t432 t435 t436 true t408 t409 t410 t411 t412 t413 t414 t415 t416)) else (laws_FnArticles.j0 k t417 t419 t422 t423 t427 t431 t432 t435 t436 true t408 t409 t410 t411 t412 t413 t414 t415 t416)) else (laws_FnArticles.j0 k t417 t419 t422 t423 t427 t431 t432 t435 t436 true t408 t409 t410 t411 t412 t413 t414 t415 t416)) = some r := by rw [if_pos rfl] at H; exact H
     clear H
     have H := H1
     clear H1
     by_cases c30 : t428 = t430
     ·
      rw [if_pos c30] at H
      have c30b0 : (t428 == t430) = true := beq_iff_eq.mpr c30
      have c30b1 : (t428 != t430) = false := bne_eq_false_iff_eq.mpr c30
      clear c30
      by_cases c31 : t427 = t429
      ·
       rw [if_pos c31] at H
       have c31b0 : (t427 == t429) = true := beq_iff_eq.mpr c31
       have c31b1 : (t427 != t429) = false := bne_eq_false_iff_eq.mpr c31
       clear c31
       by_cases c32 : t436 = t438
       ·
        rw [if_pos c32] at H
        have c32b0 : (t436 == t438) = true := beq_iff_eq.mpr c32
        have c32b1 : (t436 != t438) = false := bne_eq_false_iff_eq.mpr c32
        clear c32
        by_cases c33 : t435 = t437
        ·
         rw [if_pos c33] at H
         have c33b0 : (t435 == t437) = true := beq_iff_eq.mpr c33
         have c33b1 : (t435 != t437) = false := bne_eq_false_iff_eq.mpr c33
         clear c33
         replace H := Option.bind_eq_some_iff.mp H
         obtain ⟨t440, A340, H⟩ := H
         replace H : (if (t440 != (t430 == 0)) = true then (laws_FnArticles.j0 k t417 t419 t422 t423 t427 t431 t432 t435 t436 true t408 t409 t410 t411 t412 t413 t414 t415 t416) else ((impl_AreArticles.f k t431).bind fun t441 => ((spec_AreArticles.f k t431).bind fun t442 => (laws_FnArticles.j0 k t417 t419 t422 t423 t427 t431 t432 t435 t436 (t441 != t442) t408 t409 t410 t411 t412 t413 t414 t415 t416)))) = some r := H
         have A34 := Aside0.mk A340
         clear A340
         by_cases c35 : (t440 != (t430 == 0)) = true
         ·
          rw [if_pos c35] at H
          have c35b0 : (t440 != (t430 == 0)) = true := c35
          (try (have c35b1 : decide (t440 = (t430 == 0)) = false := by simpa using c35))
          (try (have c35b2 : (t440 == (t430 == 0)) = false := by simpa using c35))
          (try (have c35b3 : ¬ (t440 = (t430 == 0)) := by simpa using c35))
          clear c35
          first | exact absurd (H.trans (congrArg some hr_.out)) (j0T _ _ _ _ _ _ _ _ _ _ _ _ _ _ _ _ _ _ _) | exact absurd (H.trans (congrArg some hr_.out)) (j1T _ _ _ _ _ _ _ _ _ _ _ _ _ _ _)
         ·
          rw [if_neg c35] at H
          have c35b0 : (t440 != (t430 == 0)) = false := by simpa using c35
          (try (have c35b1 : decide (t440 = (t430 == 0)) = true := by simpa using c35))
          (try (have c35b2 : (t440 == (t430 == 0)) = true := by simpa using c35))
          clear c35
          replace H := Option.bind_eq_some_iff.mp H
          obtain ⟨t441, A400, H⟩ := H
          replace H : ((spec_AreArticles.f k t431).bind fun t442 => (laws_FnArticles.j0 k t417 t419 t422 t423 t427 t431 t432 t435 t436 (t441 != t442) t408 t409 t410 t411 t412 t413 t414 t415 t416)) = some r := H
          have A40 := Aside0.mk A400
          clear A400
          replace H := Option.bind_eq_some_iff.mp H
          obtain ⟨t442, A410, H⟩ := H
          replace H : (laws_FnArticles.j0 k t417 t419 t422 t423 t427 t431 t432 t435 t436 (t441 != t442) t408 t409 t410 t411 t412 t413 t414 t415 t416) = some r := H
          have A41 := Aside0.mk A410
          clear A410
          have H' := Aside0.mk H
          clear H
          obtain ⟨Ao42, co42, eo42⟩ := Kd.S_slice HO421.out
          subst eo42
          obtain ⟨Ao43, co43, eo43⟩ := Kd.S_slice HO425.out
          subst eo43
          go_wp2_with (first | (go_at_call 53; (with_reducible refine (laws_likeRows.calls k _ _ t419 _ _ t423 true _ ?side1 ?side2 ?side3 ?side4 A28.out).mono ?_); (case side1 => repeat (first | exact (Kd.S_reads' HO421.out).2.2 | (with_reducible first | apply cA | apply cN | apply cD))); (case side2 => exact (Kd.S_reads' HO421.out).2.1); (case side3 => repeat (first | exact (Kd.S_reads' HO425.out).2.2 | (with_reducible first | apply cA | apply cN | apply cD))); (case side4 => exact (Kd.S_reads' HO425.out).2.1); rintro e w' ⟨rfl, ⟨nd, rfl⟩⟩; (try first | exact ⟨rfl, _, World.drewN_drewN _ _ _⟩ | exact ⟨rfl, _, Eq.trans (World.drewN_drewN _ _ _) (congrArg (World.drewN _) (Nat.add_assoc _ _ _))⟩); have hcz44_0 : w26.cell? ⟨gb418, 0, none⟩ = some (.string t408) := (blk_cell BK418.out 0).trans rfl; have hcz44_1 : w26.cell? ⟨gb418, 1, none⟩ = some (.int .i64 t409) := (blk_cell BK418.out 1).trans rfl; have hcz44_2 : w26.cell? ⟨gb418, 2, none⟩ = some (.int .i64 t410) := (blk_cell BK418.out 2).trans rfl; have hcz44_3 : w26.cell? ⟨gb418, 3, none⟩ = some (.int .i64 t411) := (blk_cell BK418.out 3).trans rfl; have hcz44_4 : w26.cell? ⟨gb418, 4, none⟩ = some (.int .i64 t412) := (blk_cell BK418.out 4).trans rfl; have hcz44_5 : w26.cell? ⟨gb418, 5, none⟩ = some (.int .i64 t413) := (blk_cell BK418.out 5).trans rfl; have hcz44_6 : w26.cell? ⟨gb418, 6, none⟩ = some (.int .i64 t414) := (blk_cell BK418.out 6).trans rfl; have hcz44_7 : w26.cell? ⟨gb418, 7, none⟩ = some (.int .i64 t415) := (blk_cell BK418.out 7).trans rfl; have hcz44_8 : w26.cell? ⟨gb418, 8, none⟩ = some (.int .i64 t416) := (blk_cell BK418.out 8).trans rfl; have hfz44_0 := blk_frozen BK418.out 0; have hfz44_1 := blk_frozen BK418.out 1; have hfz44_2 := blk_frozen BK418.out 2; have hfz44_3 := blk_frozen BK418.out 3; have hfz44_4 := blk_frozen BK418.out 4; have hfz44_5 := blk_frozen BK418.out 5; have hfz44_6 := blk_frozen BK418.out 6; have hfz44_7 := blk_frozen BK418.out 7; have hfz44_8 := blk_frozen BK418.out 8) | (go_at_call 18; (with_reducible refine (impl_IsArticle.calls k t408 t409 t410 t411 t412 t413 t414 t415 t416 t440 _ A34.out).mono ?_); rintro e w45 ⟨rfl, hb⟩; have n0_ := Aside0.mk (Kd.S_below (by (with_reducible repeat (first | apply Kd.S_alloc | apply Kd.S_drewN | apply Kd.S_drew)); exact HO421.out) hb); have n1_ := Aside0.mk (Kd.S_below (by (with_reducible repeat (first | apply Kd.S_alloc | apply Kd.S_drewN | apply Kd.S_drew)); exact HO425.out) hb); have n2_ := Aside0.mk (Kd.R_below (by (with_reducible repeat (first | apply rA | apply rN | apply rD)); exact HO434.out) hb); have n3_ := Aside0.mk (blk_below (g := gb418) (o := .cells #[.string t408, .int .i64 t409, .int .i64 t410, .int .i64 t411, .int .i64 t412, .int .i64 t413, .int .i64 t414, .int .i64 t415, .int .i64 t416] 26 (0, 0)) (by (with_reducible repeat first | apply bN | apply bD | apply bA); exact BK418.out) hb); have n4_ := Aside0.mk (below_step (by repeat (first | (with_reducible first | exact HB.out | apply lA | apply lN | apply lD | refine below_set ?_ GE418.out) | exact HB.out)) hb); clear HO421; clear HO425; clear HO434; clear BK418; clear HB; have HO421 := n0_; have HO425 := n1_; have HO434 := n2_; have BK418 := n3_; have HB := n4_; clear n0_ n1_ n2_ n3_ n4_; (try clear hb); (try clear hb2); (try clear hk); (try clear hi)) | (go_at_call 45; (with_reducible refine (impl_AreArticles.calls k _ _ t431 t441 _ ?side1 ?side2 A40.out).mono ?_); (case side1 => repeat (first | exact (Kd.R_reads' HO434.out).2.2 | (with_reducible first | apply cA | apply cN | apply cD))); (case side2 => exact (Kd.R_reads' HO434.out).2.1); rintro e w46 ⟨rfl, hb⟩; have n0_ := Aside0.mk (Kd.S_below (by (with_reducible repeat (first | apply Kd.S_alloc | apply Kd.S_drewN | apply Kd.S_drew)); exact HO421.out) hb); have n1_ := Aside0.mk (Kd.S_below (by (with_reducible repeat (first | apply Kd.S_alloc | apply Kd.S_drewN | apply Kd.S_drew)); exact HO425.out) hb); have n2_ := Aside0.mk (Kd.R_below (by (with_reducible repeat (first | apply rA | apply rN | apply rD)); exact HO434.out) hb); have n3_ := Aside0.mk (blk_below (g := gb418) (o := .cells #[.string t408, .int .i64 t409, .int .i64 t410, .int .i64 t411, .int .i64 t412, .int .i64 t413, .int .i64 t414, .int .i64 t415, .int .i64 t416] 26 (0, 0)) (by (with_reducible repeat first | apply bN | apply bD | apply bA); exact BK418.out) hb); have n4_ := Aside0.mk (below_step (by repeat (first | (with_reducible first | exact HB.out | apply lA | apply lN | apply lD | refine below_set ?_ GE418.out) | exact HB.out)) hb); clear HO421; clear HO425; clear HO434; clear BK418; clear HB; have HO421 := n0_; have HO425 := n1_; have HO434 := n2_; have BK418 := n3_; have HB := n4_; clear n0_ n1_ n2_ n3_ n4_; (try clear hb); (try clear hb2); (try clear hk); (try clear hi)) | (go_at_call 44; (with_reducible refine (spec_AreArticles.calls k _ _ t431 t442 _ ?side1 ?side2 A41.out).mono ?_); (case side1 => repeat (first | exact (Kd.R_reads' HO434.out).2.2 | (with_reducible first | apply cA | apply cN | apply cD))); (case side2 => exact (Kd.R_reads' HO434.out).2.1); rintro e w47 ⟨rfl, hb⟩; have n0_ := Aside0.mk (Kd.S_below (by (with_reducible repeat (first | apply Kd.S_alloc | apply Kd.S_drewN | apply Kd.S_drew)); exact HO421.out) hb); have n1_ := Aside0.mk (Kd.S_below (by (with_reducible repeat (first | apply Kd.S_alloc | apply Kd.S_drewN | apply Kd.S_drew)); exact HO425.out) hb); have n2_ := Aside0.mk (Kd.R_below (by (with_reducible repeat (first | apply rA | apply rN | apply rD)); exact HO434.out) hb); have n3_ := Aside0.mk (blk_below (g := gb418) (o := .cells #[.string t408, .int .i64 t409, .int .i64 t410, .int .i64 t411, .int .i64 t412, .int .i64 t413, .int .i64 t414, .int .i64 t415, .int .i64 t416] 26 (0, 0)) (by (with_reducible repeat first | apply bN | apply bD | apply bA); exact BK418.out) hb); have n4_ := Aside0.mk (below_step (by repeat (first | (with_reducible first | exact HB.out | apply lA | apply lN | apply lD | refine below_set ?_ GE418.out) | exact HB.out)) hb); clear HO421; clear HO425; clear HO434; clear BK418; clear HB; have HO421 := n0_; have HO425 := n1_; have HO434 := n2_; have BK418 := n3_; have HB := n4_; clear n0_ n1_ n2_ n3_ n4_; (try clear hb); (try clear hb2); (try clear hk); (try clear hi)))
          repeat (go_quiet (first | (go_at_call 53; (with_reducible refine (laws_likeRows.calls k _ _ t419 _ _ t423 true _ ?side1 ?side2 ?side3 ?side4 A28.out).mono ?_); (case side1 => repeat (first | exact (Kd.S_reads' HO421.out).2.2 | (with_reducible first | apply cA | apply cN | apply cD))); (case side2 => exact (Kd.S_reads' HO421.out).2.1); (case side3 => repeat (first | exact (Kd.S_reads' HO425.out).2.2 | (with_reducible first | apply cA | apply cN | apply cD))); (case side4 => exact (Kd.S_reads' HO425.out).2.1); rintro e w' ⟨rfl, ⟨nd, rfl⟩⟩; (try first | exact ⟨rfl, _, World.drewN_drewN _ _ _⟩ | exact ⟨rfl, _, Eq.trans (World.drewN_drewN _ _ _) (congrArg (World.drewN _) (Nat.add_assoc _ _ _))⟩); have hcz44_0 : w26.cell? ⟨gb418, 0, none⟩ = some (.string t408) := (blk_cell BK418.out 0).trans rfl; have hcz44_1 : w26.cell? ⟨gb418, 1, none⟩ = some (.int .i64 t409) := (blk_cell BK418.out 1).trans rfl; have hcz44_2 : w26.cell? ⟨gb418, 2, none⟩ = some (.int .i64 t410) := (blk_cell BK418.out 2).trans rfl; have hcz44_3 : w26.cell? ⟨gb418, 3, none⟩ = some (.int .i64 t411) := (blk_cell BK418.out 3).trans rfl; have hcz44_4 : w26.cell? ⟨gb418, 4, none⟩ = some (.int .i64 t412) := (blk_cell BK418.out 4).trans rfl; have hcz44_5 : w26.cell? ⟨gb418, 5, none⟩ = some (.int .i64 t413) := (blk_cell BK418.out 5).trans rfl; have hcz44_6 : w26.cell? ⟨gb418, 6, none⟩ = some (.int .i64 t414) := (blk_cell BK418.out 6).trans rfl; have hcz44_7 : w26.cell? ⟨gb418, 7, none⟩ = some (.int .i64 t415) := (blk_cell BK418.out 7).trans rfl; have hcz44_8 : w26.cell? ⟨gb418, 8, none⟩ = some (.int .i64 t416) := (blk_cell BK418.out 8).trans rfl; have hfz44_0 := blk_frozen BK418.out 0; have hfz44_1 := blk_frozen BK418.out 1; have hfz44_2 := blk_frozen BK418.out 2; have hfz44_3 := blk_frozen BK418.out 3; have hfz44_4 := blk_frozen BK418.out 4; have hfz44_5 := blk_frozen BK418.out 5; have hfz44_6 := blk_frozen BK418.out 6; have hfz44_7 := blk_frozen BK418.out 7; have hfz44_8 := blk_frozen BK418.out 8) | (go_at_call 18; (with_reducible refine (impl_IsArticle.calls k t408 t409 t410 t411 t412 t413 t414 t415 t416 t440 _ A34.out).mono ?_); rintro e w45 ⟨rfl, hb⟩; have n0_ := Aside0.mk (Kd.S_below (by (with_reducible repeat (first | apply Kd.S_alloc | apply Kd.S_drewN | apply Kd.S_drew)); exact HO421.out) hb); have n1_ := Aside0.mk (Kd.S_below (by (with_reducible repeat (first | apply Kd.S_alloc | apply Kd.S_drewN | apply Kd.S_drew)); exact HO425.out) hb); have n2_ := Aside0.mk (Kd.R_below (by (with_reducible repeat (first | apply rA | apply rN | apply rD)); exact HO434.out) hb); have n3_ := Aside0.mk (blk_below (g := gb418) (o := .cells #[.string t408, .int .i64 t409, .int .i64 t410, .int .i64 t411, .int .i64 t412, .int .i64 t413, .int .i64 t414, .int .i64 t415, .int .i64 t416] 26 (0, 0)) (by (with_reducible repeat first | apply bN | apply bD | apply bA); exact BK418.out) hb); have n4_ := Aside0.mk (below_step (by repeat (first | (with_reducible first | exact HB.out | apply lA | apply lN | apply lD | refine below_set ?_ GE418.out) | exact HB.out)) hb); clear HO421; clear HO425; clear HO434; clear BK418; clear HB; have HO421 := n0_; have HO425 := n1_; have HO434 := n2_; have BK418 := n3_; have HB := n4_; clear n0_ n1_ n2_ n3_ n4_; (try clear hb); (try clear hb2); (try clear hk); (try clear hi)) | (go_at_call 45; (with_reducible refine (impl_AreArticles.calls k _ _ t431 t441 _ ?side1 ?side2 A40.out).mono ?_); (case side1 => repeat (first | exact (Kd.R_reads' HO434.out).2.2 | (with_reducible first | apply cA | apply cN | apply cD))); (case side2 => exact (Kd.R_reads' HO434.out).2.1); rintro e w46 ⟨rfl, hb⟩; have n0_ := Aside0.mk (Kd.S_below (by (with_reducible repeat (first | apply Kd.S_alloc | apply Kd.S_drewN | apply Kd.S_drew)); exact HO421.out) hb); have n1_ := Aside0.mk (Kd.S_below (by (with_reducible repeat (first | apply Kd.S_alloc | apply Kd.S_drewN | apply Kd.S_drew)); exact HO425.out) hb); have n2_ := Aside0.mk (Kd.R_below (by (with_reducible repeat (first | apply rA | apply rN | apply rD)); exact HO434.out) hb); have n3_ := Aside0.mk (blk_below (g := gb418) (o := .cells #[.string t408, .int .i64 t409, .int .i64 t410, .int .i64 t411, .int .i64 t412, .int .i64 t413, .int .i64 t414, .int .i64 t415, .int .i64 t416] 26 (0, 0)) (by (with_reducible repeat first | apply bN | apply bD | apply bA); exact BK418.out) hb); have n4_ := Aside0.mk (below_step (by repeat (first | (with_reducible first | exact HB.out | apply lA | apply lN | apply lD | refine below_set ?_ GE418.out) | exact HB.out)) hb); clear HO421; clear HO425; clear HO434; clear BK418; clear HB; have HO421 := n0_; have HO425 := n1_; have HO434 := n2_; have BK418 := n3_; have HB := n4_; clear n0_ n1_ n2_ n3_ n4_; (try clear hb); (try clear hb2); (try clear hk); (try clear hi)) | (go_at_call 44; (with_reducible refine (spec_AreArticles.calls k _ _ t431 t442 _ ?side1 ?side2 A41.out).mono ?_); (case side1 => repeat (first | exact (Kd.R_reads' HO434.out).2.2 | (with_reducible first | apply cA | apply cN | apply cD))); (case side2 => exact (Kd.R_reads' HO434.out).2.1); rintro e w47 ⟨rfl, hb⟩; have n0_ := Aside0.mk (Kd.S_below (by (with_reducible repeat (first | apply Kd.S_alloc | apply Kd.S_drewN | apply Kd.S_drew)); exact HO421.out) hb); have n1_ := Aside0.mk (Kd.S_below (by (with_reducible repeat (first | apply Kd.S_alloc | apply Kd.S_drewN | apply Kd.S_drew)); exact HO425.out) hb); have n2_ := Aside0.mk (Kd.R_below (by (with_reducible repeat (first | apply rA | apply rN | apply rD)); exact HO434.out) hb); have n3_ := Aside0.mk (blk_below (g := gb418) (o := .cells #[.string t408, .int .i64 t409, .int .i64 t410, .int .i64 t411, .int .i64 t412, .int .i64 t413, .int .i64 t414, .int .i64 t415, .int .i64 t416] 26 (0, 0)) (by (with_reducible repeat first | apply bN | apply bD | apply bA); exact BK418.out) hb); have n4_ := Aside0.mk (below_step (by repeat (first | (with_reducible first | exact HB.out | apply lA | apply lN | apply lD | refine below_set ?_ GE418.out) | exact HB.out)) hb); clear HO421; clear HO425; clear HO434; clear BK418; clear HB; have HO421 := n0_; have HO425 := n1_; have HO434 := n2_; have BK418 := n3_; have HB := n4_; clear n0_ n1_ n2_ n3_ n4_; (try clear hb); (try clear hb2); (try clear hk); (try clear hi))); try go_wp2_with (first | (go_at_call 53; (with_reducible refine (laws_likeRows.calls k _ _ t419 _ _ t423 true _ ?side1 ?side2 ?side3 ?side4 A28.out).mono ?_); (case side1 => repeat (first | exact (Kd.S_reads' HO421.out).2.2 | (with_reducible first | apply cA | apply cN | apply cD))); (case side2 => exact (Kd.S_reads' HO421.out).2.1); (case side3 => repeat (first | exact (Kd.S_reads' HO425.out).2.2 | (with_reducible first | apply cA | apply cN | apply cD))); (case side4 => exact (Kd.S_reads' HO425.out).2.1); rintro e w' ⟨rfl, ⟨nd, rfl⟩⟩; (try first | exact ⟨rfl, _, World.drewN_drewN _ _ _⟩ | exact ⟨rfl, _, Eq.trans (World.drewN_drewN _ _ _) (congrArg (World.drewN _) (Nat.add_assoc _ _ _))⟩); have hcz44_0 : w26.cell? ⟨gb418, 0, none⟩ = some (.string t408) := (blk_cell BK418.out 0).trans rfl; have hcz44_1 : w26.cell? ⟨gb418, 1, none⟩ = some (.int .i64 t409) := (blk_cell BK418.out 1).trans rfl; have hcz44_2 : w26.cell? ⟨gb418, 2, none⟩ = some (.int .i64 t410) := (blk_cell BK418.out 2).trans rfl; have hcz44_3 : w26.cell? ⟨gb418, 3, none⟩ = some (.int .i64 t411) := (blk_cell BK418.out 3).trans rfl; have hcz44_4 : w26.cell? ⟨gb418, 4, none⟩ = some (.int .i64 t412) := (blk_cell BK418.out 4).trans rfl; have hcz44_5 : w26.cell? ⟨gb418, 5, none⟩ = some (.int .i64 t413) := (blk_cell BK418.out 5).trans rfl; have hcz44_6 : w26.cell? ⟨gb418, 6, none⟩ = some (.int .i64 t414) := (blk_cell BK418.out 6).trans rfl; have hcz44_7 : w26.cell? ⟨gb418, 7, none⟩ = some (.int .i64 t415) := (blk_cell BK418.out 7).trans rfl; have hcz44_8 : w26.cell? ⟨gb418, 8, none⟩ = some (.int .i64 t416) := (blk_cell BK418.out 8).trans rfl; have hfz44_0 := blk_frozen BK418.out 0; have hfz44_1 := blk_frozen BK418.out 1; have hfz44_2 := blk_frozen BK418.out 2; have hfz44_3 := blk_frozen BK418.out 3; have hfz44_4 := blk_frozen BK418.out 4; have hfz44_5 := blk_frozen BK418.out 5; have hfz44_6 := blk_frozen BK418.out 6; have hfz44_7 := blk_frozen BK418.out 7; have hfz44_8 := blk_frozen BK418.out 8) | (go_at_call 18; (with_reducible refine (impl_IsArticle.calls k t408 t409 t410 t411 t412 t413 t414 t415 t416 t440 _ A34.out).mono ?_); rintro e w45 ⟨rfl, hb⟩; have n0_ := Aside0.mk (Kd.S_below (by (with_reducible repeat (first | apply Kd.S_alloc | apply Kd.S_drewN | apply Kd.S_drew)); exact HO421.out) hb); have n1_ := Aside0.mk (Kd.S_below (by (with_reducible repeat (first | apply Kd.S_alloc | apply Kd.S_drewN | apply Kd.S_drew)); exact HO425.out) hb); have n2_ := Aside0.mk (Kd.R_below (by (with_reducible repeat (first | apply rA | apply rN | apply rD)); exact HO434.out) hb); have n3_ := Aside0.mk (blk_below (g := gb418) (o := .cells #[.string t408, .int .i64 t409, .int .i64 t410, .int .i64 t411, .int .i64 t412, .int .i64 t413, .int .i64 t414, .int .i64 t415, .int .i64 t416] 26 (0, 0)) (by (with_reducible repeat first | apply bN | apply bD | apply bA); exact BK418.out) hb); have n4_ := Aside0.mk (below_step (by repeat (first | (with_reducible first | exact HB.out | apply lA | apply lN | apply lD | refine below_set ?_ GE418.out) | exact HB.out)) hb); clear HO421; clear HO425; clear HO434; clear BK418; clear HB; have HO421 := n0_; have HO425 := n1_; have HO434 := n2_; have BK418 := n3_; have HB := n4_; clear n0_ n1_ n2_ n3_ n4_; (try clear hb); (try clear hb2); (try clear hk); (try clear hi)) | (go_at_call 45; (with_reducible refine (impl_AreArticles.calls k _ _ t431 t441 _ ?side1 ?side2 A40.out).mono ?_); (case side1 => repeat (first | exact (Kd.R_reads' HO434.out).2.2 | (with_reducible first | apply cA | apply cN | apply cD))); (case side2 => exact (Kd.R_reads' HO434.out).2.1); rintro e w46 ⟨rfl, hb⟩; have n0_ := Aside0.mk (Kd.S_below (by (with_reducible repeat (first | apply Kd.S_alloc | apply Kd.S_drewN | apply Kd.S_drew)); exact HO421.out) hb); have n1_ := Aside0.mk (Kd.S_below (by (with_reducible repeat (first | apply Kd.S_alloc | apply Kd.S_drewN | apply Kd.S_drew)); exact HO425.out) hb); have n2_ := Aside0.mk (Kd.R_below (by (with_reducible repeat (first | apply rA | apply rN | apply rD)); exact HO434.out) hb); have n3_ := Aside0.mk (blk_below (g := gb418) (o := .cells #[.string t408, .int .i64 t409, .int .i64 t410, .int .i64 t411, .int .i64 t412, .int .i64 t413, .int .i64 t414, .int .i64 t415, .int .i64 t416] 26 (0, 0)) (by (with_reducible repeat first | apply bN | apply bD | apply bA); exact BK418.out) hb); have n4_ := Aside0.mk (below_step (by repeat (first | (with_reducible first | exact HB.out | apply lA | apply lN | apply lD | refine below_set ?_ GE418.out) | exact HB.out)) hb); clear HO421; clear HO425; clear HO434; clear BK418; clear HB; have HO421 := n0_; have HO425 := n1_; have HO434 := n2_; have BK418 := n3_; have HB := n4_; clear n0_ n1_ n2_ n3_ n4_; (try clear hb); (try clear hb2); (try clear hk); (try clear hi)) | (go_at_call 44; (with_reducible refine (spec_AreArticles.calls k _ _ t431 t442 _ ?side1 ?side2 A41.out).mono ?_); (case side1 => repeat (first | exact (Kd.R_reads' HO434.out).2.2 | (with_reducible first | apply cA | apply cN | apply cD))); (case side2 => exact (Kd.R_reads' HO434.out).2.1); rintro e w47 ⟨rfl, hb⟩; have n0_ := Aside0.mk (Kd.S_below (by (with_reducible repeat (first | apply Kd.S_alloc | apply Kd.S_drewN | apply Kd.S_drew)); exact HO421.out) hb); have n1_ := Aside0.mk (Kd.S_below (by (with_reducible repeat (first | apply Kd.S_alloc | apply Kd.S_drewN | apply Kd.S_drew)); exact HO425.out) hb); have n2_ := Aside0.mk (Kd.R_below (by (with_reducible repeat (first | apply rA | apply rN | apply rD)); exact HO434.out) hb); have n3_ := Aside0.mk (blk_below (g := gb418) (o := .cells #[.string t408, .int .i64 t409, .int .i64 t410, .int .i64 t411, .int .i64 t412, .int .i64 t413, .int .i64 t414, .int .i64 t415, .int .i64 t416] 26 (0, 0)) (by (with_reducible repeat first | apply bN | apply bD | apply bA); exact BK418.out) hb); have n4_ := Aside0.mk (below_step (by repeat (first | (with_reducible first | exact HB.out | apply lA | apply lN | apply lD | refine below_set ?_ GE418.out) | exact HB.out)) hb); clear HO421; clear HO425; clear HO434; clear BK418; clear HB; have HO421 := n0_; have HO425 := n1_; have HO434 := n2_; have BK418 := n3_; have HB := n4_; clear n0_ n1_ n2_ n3_ n4_; (try clear hb); (try clear hb2); (try clear hk); (try clear hi))))
          go_meet
          case rel => exact ⟨_, ((t441 != t442)), (by first | rfl | (simp; done) | (simp [*]; done)), H', ⟨by first | omega | exact Nat.le_refl _⟩, ⟨by (with_reducible repeat (first | apply Kd.S_alloc | apply Kd.S_drewN | apply Kd.S_drew)); exact Kd.S_mono HO421.out (fun _ hk => hk.2)⟩, ⟨by (with_reducible repeat (first | apply Kd.S_alloc | apply Kd.S_drewN | apply Kd.S_drew)); exact Kd.S_mono HO425.out (fun _ hk => hk.2)⟩, ⟨by (with_reducible repeat (first | apply rA | apply rN | apply rD)); exact Kd.R_mono HO434.out (fun _ hk => hk.2)⟩, ⟨by (with_reducible repeat first | apply bN | apply bD | apply bA); exact BK418.out⟩, ⟨by repeat (first | (with_reducible first | exact HB.out | apply lA | apply lN | apply lD | refine below_set ?_ GE418.out) | exact HB.out)⟩⟩
        ·
         rw [if_neg c33] at H
         have c33b0 : (t435 == t437) = false := beq_eq_false_iff_ne.mpr c33
         have c33b1 : (t435 != t437) = true := bne_iff_ne.mpr c33
         first | exact absurd (H.trans (congrArg some hr_.out)) (j0T _ _ _ _ _ _ _ _ _ _ _ _ _ _ _ _ _ _ _) | exact absurd (H.trans (congrArg some hr_.out)) (j1T _ _ _ _ _ _ _ _ _ _ _ _ _ _ _)
       ·
        rw [if_neg c32] at H
        have c32b0 : (t436 == t438) = false := beq_eq_false_iff_ne.mpr c32
        have c32b1 : (t436 != t438) = true := bne_iff_ne.mpr c32
        first | exact absurd (H.trans (congrArg some hr_.out)) (j0T _ _ _ _ _ _ _ _ _ _ _ _ _ _ _ _ _ _ _) | exact absurd (H.trans (congrArg some hr_.out)) (j1T _ _ _ _ _ _ _ _ _ _ _ _ _ _ _)
      ·
       rw [if_neg c31] at H
       have c31b0 : (t427 == t429) = false := beq_eq_false_iff_ne.mpr c31
       have c31b1 : (t427 != t429) = true := bne_iff_ne.mpr c31
       first | exact absurd (H.trans (congrArg some hr_.out)) (j0T _ _ _ _ _ _ _ _ _ _ _ _ _ _ _ _ _ _ _) | exact absurd (H.trans (congrArg some hr_.out)) (j1T _ _ _ _ _ _ _ _ _ _ _ _ _ _ _)
     ·
      rw [if_neg c30] at H
      have c30b0 : (t428 == t430) = false := beq_eq_false_iff_ne.mpr c30
      have c30b1 : (t428 != t430) = true := bne_iff_ne.mpr c30
      first | exact absurd (H.trans (congrArg some hr_.out)) (j0T _ _ _ _ _ _ _ _ _ _ _ _ _ _ _ _ _ _ _) | exact absurd (H.trans (congrArg some hr_.out)) (j1T _ _ _ _ _ _ _ _ _ _ _ _ _ _ _)
    ·
     replace c29 := Bool.eq_false_iff.mpr c29
     subst c29
     have H1 : (laws_FnArticles.j0 k t417 t419 t422 t423 t427 t431 t432 t435 t436 true t408 t409 t410 t411 t412 t413 t414 t415 t416) = some r := by rw [if_neg (show ¬ (false = true) by decide)] at H; exact H
     clear H
     have H := H1
     clear H1
     first | exact absurd (H.trans (congrArg some hr_.out)) (j0T _ _ _ _ _ _ _ _ _ _ _ _ _ _ _ _ _ _ _) | exact absurd (H.trans (congrArg some hr_.out)) (j1T _ _ _ _ _ _ _ _ _ _ _ _ _ _ _)
   ·
    rw [if_neg c27] at H
    have c27b0 : (t422 == t426) = false := beq_eq_false_iff_ne.mpr c27
    have c27b1 : (t422 != t426) = true := bne_iff_ne.mpr c27
    (first | rw [c27b0] | (simp only [i64_w, i32_w]; rw [c27b0]) | skip)
    first | exact absurd (H.trans (congrArg some hr_.out)) (j0T _ _ _ _ _ _ _ _ _ _ _ _ _ _ _ _ _ _ _) | exact absurd (H.trans (congrArg some hr_.out)) (j1T _ _ _ _ _ _ _ _ _ _ _ _ _ _ _)
  case rest =>
   clear HC12
   try clear c1
   try clear c2
   try clear p2
   try clear c3
   try clear c13
   try clear c27
   try clear c27b0
   try clear c27b1
   try clear c29
   try clear c30
   try clear c30b0
   try clear c30b1
   try clear c31
   try clear c31b0
   try clear c31b1
   try clear c32
   try clear c32b0
   try clear c32b1
   try clear c33
   try clear c33b0
   try clear c33b1
   try clear c35
   try clear c35b0
   try clear c35b1
   try clear c35b2
   try clear hcz15_0
   try clear hcz15_1
   try clear hcz15_2
   try clear hcz15_3
   try clear hcz15_4
   try clear hcz15_5
   try clear hcz15_6
   try clear hcz15_7
   try clear hcz15_8
   try clear hcz17_0
   try clear hcz17_1
   try clear hcz17_2
   try clear hcz17_3
   try clear hcz17_4
   try clear hcz17_5
   try clear hcz17_6
   try clear hcz17_7
   try clear hcz17_8
   try clear hcz19_0
   try clear hcz19_1
   try clear hcz19_2
   try clear hcz19_3
   try clear hcz19_4
   try clear hcz19_5
   try clear hcz19_6
   try clear hcz19_7
   try clear hcz19_8
   try clear hcz21_0
   try clear hcz21_1
   try clear hcz21_2
   try clear hcz21_3
   try clear hcz21_4
   try clear hcz21_5
   try clear hcz21_6
   try clear hcz21_7
   try clear hcz21_8
   try clear hcz38_0
   try clear hcz38_1
   try clear hcz38_2
   try clear hcz38_3
   try clear hcz38_4
   try clear hcz38_5
   try clear hcz38_6
   try clear hcz38_7
   try clear hcz38_8
   try clear hcz44_0
   try clear hcz44_1
   try clear hcz44_2
   try clear hcz44_3
   try clear hcz44_4
   try clear hcz44_5
   try clear hcz44_6
   try clear hcz44_7
   try clear hcz44_8
   try clear hfz15_0
   try clear hfz15_1
   try clear hfz15_2
   try clear hfz15_3
   try clear hfz15_4
   try clear hfz15_5
   try clear hfz15_6
   try clear hfz15_7
   try clear hfz15_8
   try clear hfz17_0
   try clear hfz17_1
   try clear hfz17_2
   try clear hfz17_3
   try clear hfz17_4
   try clear hfz17_5
   try clear hfz17_6
   try clear hfz17_7
   try clear hfz17_8
   try clear hfz19_0
   try clear hfz19_1
   try clear hfz19_2
   try clear hfz19_3
   try clear hfz19_4
   try clear hfz19_5
   try clear hfz19_6
   try clear hfz19_7
   try clear hfz19_8
   try clear hfz21_0
   try clear hfz21_1
   try clear hfz21_2
   try clear hfz21_3
   try clear hfz21_4
   try clear hfz21_5
   try clear hfz21_6
   try clear hfz21_7
   try clear hfz21_8
   try clear hfz38_0
   try clear hfz38_1
   try clear hfz38_2
   try clear hfz38_3
   try clear hfz38_4
   try clear hfz38_5
   try clear hfz38_6
   try clear hfz38_7
   try clear hfz38_8
   try clear hfz44_0
   try clear hfz44_1
   try clear hfz44_2
   try clear hfz44_3
   try clear hfz44_4
   try clear hfz44_5
   try clear hfz44_6
   try clear hfz44_7
   try clear hfz44_8
   obtain ⟨kq, x108_11, rfl, HA, HJ11, HO_5, HO_7, HO_13, BK418, HB⟩ := hcut
   cases kq with
   | zero => exact absurd HA.out (by simp [laws_FnArticles.j0])
   | succ kj11 =>
    have H := HA.out
    clear HA
    simp only [laws_FnArticles.j0] at H
    by_cases c58 : x108_11 = true
    ·
     subst c58
     have H1 : (some false) = some r := by rw [if_pos rfl] at H; exact H
     clear H
     have H := H1
     clear H1
     obtain rfl := Option.some.inj H
     exact absurd hr_.out (by decide)
    ·
     replace c58 := Bool.eq_false_iff.mpr c58
     subst c58
     have H1 : (if t436 = 0 then (if 0 ≤ t435 then (if t435 < (t431.length : Int) then (laws_FnArticles.j1 kj11 t417 t419 t422 t423 t427 (((rd_T26 t431 t435).f0).toList != t432.toList) t408 t409 t410 t411 t412 t413 t414 t415 t416) else (none)) else (none)) else (laws_FnArticles.j1 kj11 t417 t419 t422 t423 t427 false t408 t409 t410 t411 t412 t413 t414 t415 t416)) = some r := by rw [if_neg (show ¬ (false = true) by decide)] at H; exact H
     clear H
     have H := H1
     clear H1
     have HC59 := Aside0.mk H
     clear H
     go_upto_region 13 with (fail)
     repeat (go_quiet (fail); go_upto_region 13 with (fail))
     go_cut [119] (fun v119 wc => ∃ (kq : Nat) (x119_58 : Bool), v119 = .bool x119_58 ∧ Aside0 (laws_FnArticles.j1 kq t417 t419 t422 t423 t427 x119_58 t408 t409 t410 t411 t412 t413 t414 t415 t416 = some r) ∧ Aside0 (kq ≤ kj11) ∧ Aside0 (Kd.S (Kd.slice 2 (Kd.int .i64)) 40 wc w.heap.size (fun k_ => some k_ ≠ (v424 : Value).ownBlock) v420 t419) ∧ Aside0 (Kd.S (Kd.slice 2 (Kd.int .i64)) 40 wc w.heap.size (fun k_ => some k_ ≠ (v420 : Value).ownBlock) v424 t423) ∧ Aside0 (wc.heap[gb418]? = some (.cells #[.string t408, .int .i64 t409, .int .i64 t410, .int .i64 t411, .int .i64 t412, .int .i64 t413, .int .i64 t414, .int .i64 t415, .int .i64 t416] 26 (0, 0))) ∧ Aside0 (Below w.heap.size w wc))
     case first =>
      have H := HC59.out
      clear HC59
      by_cases c60 : t436 = 0
      ·
       rw [if_pos c60] at H
       have c60b0 : (t436 == 0) = true := beq_iff_eq.mpr c60
       have c60b1 : (t436 != 0) = false := bne_eq_false_iff_eq.mpr c60
       clear c60
       (first | rw [c60b0] | (simp only [i64_w, i32_w]; rw [c60b0]) | skip)
       by_cases c61 : 0 ≤ t435
       ·
        rw [if_pos c61] at H
        have c61b0 : decide (0 ≤ t435) = true := decide_eq_true c61
        clear c61
        by_cases c62 : t435 < (t431.length : Int)
        ·
         rw [if_pos c62] at H
         have c62b0 : decide (t435 < (t431.length : Int)) = true := decide_eq_true c62
         clear c62
         have H' := Aside0.mk H
         clear H
         have p443 : 0 ≤ (t435 : Int) := of_decide_eq_true (by with_reducible assumption)
         have q443 : t435 < (t431.length : Int) := of_decide_eq_true (by with_reducible assumption)
         obtain ⟨ad443, e443, hx443_0, hx443_1, hx443_2, hx443_3, hx443_4, hx443_5, hx443_6, hx443_7, hx443_8⟩ := at_T26 (Kd.R_reads' HO_13.out).2.2 t435 p443 q443
         cases e443
         replace p443 := eq_true p443
         replace q443 := eq_true q443
         go_wp2
         repeat (go_quiet (fail); try go_wp2)
         go_meet
         case rel => exact ⟨_, ((((rd_T26 t431 t435).f0).toList != t432.toList)), (by first | rfl | (simp; done) | (simp [*]; done)), H', ⟨by have := HJ11.out; first | omega | exact Nat.le_refl _⟩, ⟨by (with_reducible repeat (first | apply Kd.S_alloc | apply Kd.S_drewN | apply Kd.S_drew)); exact HO_5.out⟩, ⟨by (with_reducible repeat (first | apply Kd.S_alloc | apply Kd.S_drewN | apply Kd.S_drew)); exact HO_7.out⟩, ⟨by (with_reducible repeat first | apply bN | apply bD | apply bA); exact BK418.out⟩, ⟨by repeat (first | (with_reducible first | exact HB.out | apply lA | apply lN | apply lD | refine below_set ?_ GE418.out) | exact HB.out)⟩⟩
        ·
         rw [if_neg c62] at H
         exact absurd H (by simp)
       ·
        rw [if_neg c61] at H
        exact absurd H (by simp)
      ·
       rw [if_neg c60] at H
       have c60b0 : (t436 == 0) = false := beq_eq_false_iff_ne.mpr c60
       have c60b1 : (t436 != 0) = true := bne_iff_ne.mpr c60
       (first | rw [c60b0] | (simp only [i64_w, i32_w]; rw [c60b0]) | skip)
       have H' := Aside0.mk H
       clear H
       go_wp2
       repeat (go_quiet (fail); try go_wp2)
       go_meet
       case rel => exact ⟨_, (false), (by first | rfl | (simp; done) | (simp [*]; done)), H', ⟨by have := HJ11.out; first | omega | exact Nat.le_refl _⟩, ⟨by (with_reducible repeat (first | apply Kd.S_alloc | apply Kd.S_drewN | apply Kd.S_drew)); exact HO_5.out⟩, ⟨by (with_reducible repeat (first | apply Kd.S_alloc | apply Kd.S_drewN | apply Kd.S_drew)); exact HO_7.out⟩, ⟨by (with_reducible repeat first | apply bN | apply bD | apply bA); exact BK418.out⟩, ⟨by repeat (first | (with_reducible first | exact HB.out | apply lA | apply lN | apply lD | refine below_set ?_ GE418.out) | exact HB.out)⟩⟩
     case rest =>
      clear HC59
      try clear c1
      try clear c2
      try clear p2
      try clear c3
      try clear p4
      try clear q4
      try clear hx4
      try clear c5
      try clear c6
      try clear c13
      try clear c27
      try clear c27b0
      try clear c27b1
      try clear c29
      try clear c30
      try clear c30b0
      try clear c30b1
      try clear c31
      try clear c31b0
      try clear c31b1
      try clear c32
      try clear c32b0
      try clear c32b1
      try clear c33
      try clear c33b0
      try clear c33b1
      try clear c35
      try clear c35b0
      try clear c35b1
      try clear c35b2
      try clear p44
      try clear q44
      try clear hx44
      try clear c58
      try clear c60
      try clear c60b0
      try clear c60b1
      try clear c61
      try clear c61b0
      try clear c62
      try clear c62b0
      try clear hcz15_0
      try clear hcz15_1
      try clear hcz15_2
      try clear hcz15_3
      try clear hcz15_4
      try clear hcz15_5
      try clear hcz15_6
      try clear hcz15_7
      try clear hcz15_8
      try clear hcz17_0
      try clear hcz17_1
      try clear hcz17_2
      try clear hcz17_3
      try clear hcz17_4
      try clear hcz17_5
      try clear hcz17_6
      try clear hcz17_7
      try clear hcz17_8
      try clear hcz19_0
      try clear hcz19_1
      try clear hcz19_2
      try clear hcz19_3
      try clear hcz19_4
      try clear hcz19_5
      try clear hcz19_6
      try clear hcz19_7
      try clear hcz19_8
      try clear hcz21_0
      try clear hcz21_1
      try clear hcz21_2
      try clear hcz21_3
      try clear hcz21_4
      try clear hcz21_5
      try clear hcz21_6
      try clear hcz21_7
      try clear hcz21_8
      try clear hcz38_0
      try clear hcz38_1
      try clear hcz38_2
      try clear hcz38_3
      try clear hcz38_4
      try clear hcz38_5
      try clear hcz38_6
      try clear hcz38_7
      try clear hcz38_8
      try clear hcz44_0
      try clear hcz44_1
      try clear hcz44_2
      try clear hcz44_3
      try clear hcz44_4
      try clear hcz44_5
      try clear hcz44_6
      try clear hcz44_7
      try clear hcz44_8
      try clear hfz15_0
      try clear hfz15_1
      try clear hfz15_2
      try clear hfz15_3
      try clear hfz15_4
      try clear hfz15_5
      try clear hfz15_6
      try clear hfz15_7
      try clear hfz15_8
      try clear hfz17_0
      try clear hfz17_1
      try clear hfz17_2
      try clear hfz17_3
      try clear hfz17_4
      try clear hfz17_5
      try clear hfz17_6
      try clear hfz17_7
      try clear hfz17_8
      try clear hfz19_0
      try clear hfz19_1
      try clear hfz19_2
      try clear hfz19_3
      try clear hfz19_4
      try clear hfz19_5
      try clear hfz19_6
      try clear hfz19_7
      try clear hfz19_8
      try clear hfz21_0
      try clear hfz21_1
      try clear hfz21_2
      try clear hfz21_3
      try clear hfz21_4
      try clear hfz21_5
      try clear hfz21_6
      try clear hfz21_7
      try clear hfz21_8
      try clear hfz38_0
      try clear hfz38_1
      try clear hfz38_2
      try clear hfz38_3
      try clear hfz38_4
      try clear hfz38_5
      try clear hfz38_6
      try clear hfz38_7
      try clear hfz38_8
      try clear hfz44_0
      try clear hfz44_1
      try clear hfz44_2
      try clear hfz44_3
      try clear hfz44_4
      try clear hfz44_5
      try clear hfz44_6
      try clear hfz44_7
      try clear hfz44_8
      try clear hx443_0
      try clear hx443_1
      try clear hx443_2
      try clear hx443_3
      try clear hx443_4
      try clear hx443_5
      try clear hx443_6
      try clear hx443_7
      try clear hx443_8
      try clear p2
      try clear p443
      try clear q443
      obtain ⟨kq, x119_58, rfl, HA, HJ58, HO_5, HO_7, BK418, HB⟩ := hcut
      cases kq with
      | zero => exact absurd HA.out (by simp [laws_FnArticles.j1])
      | succ kj58 =>
       have H := HA.out
       clear HA
       simp only [laws_FnArticles.j1] at H
       by_cases c63 : x119_58 = true
       ·
        subst c63
        have H1 : (some false) = some r := by rw [if_pos rfl] at H; exact H
        clear H
        have H := H1
        clear H1
        obtain rfl := Option.some.inj H
        exact absurd hr_.out (by decide)
       ·
        replace c63 := Bool.eq_false_iff.mpr c63
        subst c63
        have H1 : (laws_FnArticles.l0 kj58 t417 t419 t422 t423 t427 0 t408 t409 t410 t411 t412 t413 t414 t415 t416) = some r := by rw [if_neg (show ¬ (false = true) by decide)] at H; exact H
        clear H
        have H := H1
        clear H1
        have H' := Aside0.mk H
        clear H
        go_wp2
        repeat (go_quiet (fail); try go_wp2)
        go_loopg [19] kj58 (fun kq v19 w' => ∃ (x19_3 : Int), v19 = .int .i64 x19_3 ∧ Aside0 (laws_FnArticles.l0 kq t417 t419 t422 t423 t427 x19_3 t408 t409 t410 t411 t412 t413 t414 t415 t416 = some r) ∧ Aside0 (kq ≤ kj58) ∧ Aside0 (Kd.S (Kd.slice 2 (Kd.int .i64)) 40 w' w.heap.size (fun k_ => some k_ ≠ (v424 : Value).ownBlock) v420 t419) ∧ Aside0 (Kd.S (Kd.slice 2 (Kd.int .i64)) 40 w' w.heap.size (fun k_ => some k_ ≠ (v420 : Value).ownBlock) v424 t423) ∧ Aside0 (w'.heap[gb418]? = some (.cells #[.string t408, .int .i64 t409, .int .i64 t410, .int .i64 t411, .int .i64 t412, .int .i64 t413, .int .i64 t414, .int .i64 t415, .int .i64 t416] 26 (0, 0))) ∧ Aside0 (Below w.heap.size w w'))
        case atStart => exact ⟨(0), (by first | rfl | (simp; done) | (simp [*]; done)), H', ⟨Nat.le_refl _⟩, ⟨by (with_reducible repeat (first | apply Kd.S_alloc | apply Kd.S_drewN | apply Kd.S_drew)); exact HO_5.out⟩, ⟨by (with_reducible repeat (first | apply Kd.S_alloc | apply Kd.S_drewN | apply Kd.S_drew)); exact HO_7.out⟩, ⟨by (with_reducible repeat first | apply bN | apply bD | apply bA); exact BK418.out⟩, ⟨by repeat (first | (with_reducible first | exact HB.out | apply lA | apply lN | apply lD | refine below_set ?_ GE418.out) | exact HB.out)⟩⟩
        case round =>
         clear H'
         try clear c1
         try clear c2
         try clear p2
         try clear c3
         try clear p4
         try clear q4
         try clear hx4
         try clear c5
         try clear c6
         try clear c13
         try clear c27
         try clear c27b0
         try clear c27b1
         try clear c29
         try clear c30
         try clear c30b0
         try clear c30b1
         try clear c31
         try clear c31b0
         try clear c31b1
         try clear c32
         try clear c32b0
         try clear c32b1
         try clear c33
         try clear c33b0
         try clear c33b1
         try clear c35
         try clear c35b0
         try clear c35b1
         try clear c35b2
         try clear p44
         try clear q44
         try clear hx44
         try clear c58
         try clear c60
         try clear c60b0
         try clear c60b1
         try clear c61
         try clear c61b0
         try clear c62
         try clear c62b0
         try clear c63
         try clear hcz15_0
         try clear hcz15_1
         try clear hcz15_2
         try clear hcz15_3
         try clear hcz15_4
         try clear hcz15_5
         try clear hcz15_6
         try clear hcz15_7
         try clear hcz15_8
         try clear hcz17_0
         try clear hcz17_1
         try clear hcz17_2
         try clear hcz17_3
         try clear hcz17_4
         try clear hcz17_5
         try clear hcz17_6
         try clear hcz17_7
         try clear hcz17_8
         try clear hcz19_0
         try clear hcz19_1
         try clear hcz19_2
         try clear hcz19_3
         try clear hcz19_4
         try clear hcz19_5
         try clear hcz19_6
         try clear hcz19_7
         try clear hcz19_8
         try clear hcz21_0
         try clear hcz21_1
         try clear hcz21_2
         try clear hcz21_3
         try clear hcz21_4
         try clear hcz21_5
         try clear hcz21_6
         try clear hcz21_7
         try clear hcz21_8
         try clear hcz38_0
         try clear hcz38_1
         try clear hcz38_2
         try clear hcz38_3
         try clear hcz38_4
         try clear hcz38_5
         try clear hcz38_6
         try clear hcz38_7
         try clear hcz38_8
         try clear hcz44_0
         try clear hcz44_1
         try clear hcz44_2
         try clear hcz44_3
         try clear hcz44_4
         try clear hcz44_5
         try clear hcz44_6
         try clear hcz44_7
         try clear hcz44_8
         try clear hfz15_0
         try clear hfz15_1
         try clear hfz15_2
         try clear hfz15_3
         try clear hfz15_4
         try clear hfz15_5
         try clear hfz15_6
         try clear hfz15_7
         try clear hfz15_8
         try clear hfz17_0
         try clear hfz17_1
         try clear hfz17_2
         try clear hfz17_3
         try clear hfz17_4
         try clear hfz17_5
         try clear hfz17_6
         try clear hfz17_7
         try clear hfz17_8
         try clear hfz19_0
         try clear hfz19_1
         try clear hfz19_2
         try clear hfz19_3
         try clear hfz19_4
         try clear hfz19_5
         try clear hfz19_6
         try clear hfz19_7
         try clear hfz19_8
         try clear hfz21_0
         try clear hfz21_1
         try clear hfz21_2
         try clear hfz21_3
         try clear hfz21_4
         try clear hfz21_5
         try clear hfz21_6
         try clear hfz21_7
         try clear hfz21_8
         try clear hfz38_0
         try clear hfz38_1
         try clear hfz38_2
         try clear hfz38_3
         try clear hfz38_4
         try clear hfz38_5
         try clear hfz38_6
         try clear hfz38_7
         try clear hfz38_8
         try clear hfz44_0
         try clear hfz44_1
         try clear hfz44_2
         try clear hfz44_3
         try clear hfz44_4
         try clear hfz44_5
         try clear hfz44_6
         try clear hfz44_7
         try clear hfz44_8
         try clear hx443_0
         try clear hx443_1
         try clear hx443_2
         try clear hx443_3
         try clear hx443_4
         try clear hx443_5
         try clear hx443_6
         try clear hx443_7
         try clear hx443_8
         try clear p2
         try clear p4
         try clear p44
         try clear p443
         try clear q4
         try clear q44
         try clear q443
         obtain ⟨x19_3, rfl, HA, HK3, HO_5, HO_7, BK418, HB⟩ := hrel
         cases gk with
         | zero => exact absurd HA.out (by simp [laws_FnArticles.l0])
         | succ k3 =>
          have H := HA.out
          clear HA
          simp only [laws_FnArticles.l0] at H
          have HC64 := Aside0.mk H
          clear H
          go_upto_region 16 with (fail)
          repeat (go_quiet (fail); go_upto_region 16 with (fail))
          go_cut [127] (fun v127 wc => ∃ (kq : Nat) (x127_63 : Bool), v127 = .bool x127_63 ∧ Aside0 (laws_FnArticles.j3 kq t417 t419 t422 t423 t427 x19_3 x127_63 t408 t409 t410 t411 t412 t413 t414 t415 t416 = some r) ∧ Aside0 (kq ≤ k3) ∧ Aside0 (Kd.S (Kd.slice 2 (Kd.int .i64)) 40 wc w.heap.size (fun k_ => some k_ ≠ (v424 : Value).ownBlock) v420 t419) ∧ Aside0 (Kd.S (Kd.slice 2 (Kd.int .i64)) 40 wc w.heap.size (fun k_ => some k_ ≠ (v420 : Value).ownBlock) v424 t423) ∧ Aside0 (wc.heap[gb418]? = some (.cells #[.string t408, .int .i64 t409, .int .i64 t410, .int .i64 t411, .int .i64 t412, .int .i64 t413, .int .i64 t414, .int .i64 t415, .int .i64 t416] 26 (0, 0))) ∧ Aside0 (Below w.heap.size w wc))
          case first =>
           have H := HC64.out
           clear HC64
           by_cases c65 : t422 = 0
           ·
            rw [if_pos c65] at H
            have c65b0 : (t422 == 0) = true := beq_iff_eq.mpr c65
            have c65b1 : (t422 != 0) = false := bne_eq_false_iff_eq.mpr c65
            clear c65
            (first | rw [c65b0] | (simp only [i64_w, i32_w]; rw [c65b0]) | skip)
            have H' := Aside0.mk H
            clear H
            obtain ⟨Ao66, co66, eo66⟩ := Kd.S_slice HO_5.out
            subst eo66
            go_wp2
            repeat (go_quiet (fail); try go_wp2)
            go_meet
            case rel => exact ⟨_, (decide (x19_3 < (t419.length : Int))), (by first | rfl | (simp; done) | (simp [*]; done)), H', ⟨by have := HJ11.out; have := HJ58.out; have := HK3.out; first | omega | exact Nat.le_refl _⟩, ⟨by (with_reducible repeat (first | apply Kd.S_alloc | apply Kd.S_drewN | apply Kd.S_drew)); exact HO_5.out⟩, ⟨by (with_reducible repeat (first | apply Kd.S_alloc | apply Kd.S_drewN | apply Kd.S_drew)); exact HO_7.out⟩, ⟨by (with_reducible repeat first | apply bN | apply bD | apply bA); exact BK418.out⟩, ⟨by repeat (first | (with_reducible first | exact HB.out | apply lA | apply lN | apply lD | refine below_set ?_ GE418.out) | exact HB.out)⟩⟩
           ·
            rw [if_neg c65] at H
            have c65b0 : (t422 == 0) = false := beq_eq_false_iff_ne.mpr c65
            have c65b1 : (t422 != 0) = true := bne_iff_ne.mpr c65
            (first | rw [c65b0] | (simp only [i64_w, i32_w]; rw [c65b0]) | skip)
            have H' := Aside0.mk H
            clear H
            go_wp2
            repeat (go_quiet (fail); try go_wp2)
            go_meet
            case rel => exact ⟨_, (false), (by first | rfl | (simp; done) | (simp [*]; done)), H', ⟨by have := HJ11.out; have := HJ58.out; have := HK3.out; first | omega | exact Nat.le_refl _⟩, ⟨by (with_reducible repeat (first | apply Kd.S_alloc | apply Kd.S_drewN | apply Kd.S_drew)); exact HO_5.out⟩, ⟨by (with_reducible repeat (first | apply Kd.S_alloc | apply Kd.S_drewN | apply Kd.S_drew)); exact HO_7.out⟩, ⟨by (with_reducible repeat first | apply bN | apply bD | apply bA); exact BK418.out⟩, ⟨by repeat (first | (with_reducible first | exact HB.out | apply lA | apply lN | apply lD | refine below_set ?_ GE418.out) | exact HB.out)⟩⟩
          case rest =>
           clear HC64
           try clear c1
           try clear c2
           try clear p2
           try clear c3
           try clear p4
           try clear q4
           try clear hx4
           try clear c5
           try clear c6
           try clear c13
           try clear c27
           try clear c27b0
           try clear c27b1
           try clear c29
           try clear c30
           try clear c30b0
           try clear c30b1
           try clear c31
           try clear c31b0
           try clear c31b1
           try clear c32
           try clear c32b0
           try clear c32b1
           try clear c33
           try clear c33b0
           try clear c33b1
           try clear c35
           try clear c35b0
           try clear c35b1
           try clear c35b2
           try clear p44
           try clear q44
           try clear hx44
           try clear c58
           try clear c60
           try clear c60b0
           try clear c60b1
           try clear c61
           try clear c61b0
           try clear c62
           try clear c62b0
           try clear c63
           try clear c65
           try clear c65b0
           try clear c65b1
           try clear hcz15_0
           try clear hcz15_1
           try clear hcz15_2
           try clear hcz15_3
           try clear hcz15_4
           try clear hcz15_5
           try clear hcz15_6
           try clear hcz15_7
           try clear hcz15_8
           try clear hcz17_0
           try clear hcz17_1
           try clear hcz17_2
           try clear hcz17_3
           try clear hcz17_4
           try clear hcz17_5
           try clear hcz17_6
           try clear hcz17_7
           try clear hcz17_8
           try clear hcz19_0
           try clear hcz19_1
           try clear hcz19_2
           try clear hcz19_3
           try clear hcz19_4
           try clear hcz19_5
           try clear hcz19_6
           try clear hcz19_7
           try clear hcz19_8
           try clear hcz21_0
           try clear hcz21_1
           try clear hcz21_2
           try clear hcz21_3
           try clear hcz21_4
           try clear hcz21_5
           try clear hcz21_6
           try clear hcz21_7
           try clear hcz21_8
           try clear hcz38_0
           try clear hcz38_1
           try clear hcz38_2
           try clear hcz38_3
           try clear hcz38_4
           try clear hcz38_5
           try clear hcz38_6
           try clear hcz38_7
           try clear hcz38_8
           try clear hcz44_0
           try clear hcz44_1
           try clear hcz44_2
           try clear hcz44_3
           try clear hcz44_4
           try clear hcz44_5
           try clear hcz44_6
           try clear hcz44_7
           try clear hcz44_8
           try clear hfz15_0
           try clear hfz15_1
           try clear hfz15_2
           try clear hfz15_3
           try clear hfz15_4
           try clear hfz15_5
           try clear hfz15_6
           try clear hfz15_7
           try clear hfz15_8
           try clear hfz17_0
           try clear hfz17_1
           try clear hfz17_2
           try clear hfz17_3
           try clear hfz17_4
           try clear hfz17_5
           try clear hfz17_6
           try clear hfz17_7
           try clear hfz17_8
           try clear hfz19_0
           try clear hfz19_1
           try clear hfz19_2
           try clear hfz19_3
           try clear hfz19_4
           try clear hfz19_5
           try clear hfz19_6
           try clear hfz19_7
           try clear hfz19_8
           try clear hfz21_0
           try clear hfz21_1
           try clear hfz21_2
           try clear hfz21_3
           try clear hfz21_4
           try clear hfz21_5
           try clear hfz21_6
           try clear hfz21_7
           try clear hfz21_8
           try clear hfz38_0
           try clear hfz38_1
           try clear hfz38_2
           try clear hfz38_3
           try clear hfz38_4
           try clear hfz38_5
           try clear hfz38_6
           try clear hfz38_7
           try clear hfz38_8
           try clear hfz44_0
           try clear hfz44_1
           try clear hfz44_2
           try clear hfz44_3
           try clear hfz44_4
           try clear hfz44_5
           try clear hfz44_6
           try clear hfz44_7
           try clear hfz44_8
           try clear hx443_0
           try clear hx443_1
           try clear hx443_2
           try clear hx443_3
           try clear hx443_4
           try clear hx443_5
           try clear hx443_6
           try clear hx443_7
           try clear hx443_8
           try clear p2
           try clear p4
           try clear p44
           try clear p443
           try clear q4
           try clear q44
           try clear q443
           obtain ⟨kq, x127_63, rfl, HA, HJ63, HO_5, HO_7, BK418, HB⟩ := hcut
           cases kq with
           | zero => exact absurd HA.out (by simp [laws_FnArticles.j3])
           | succ kj63 =>
            have H := HA.out
            clear HA
            simp only [laws_FnArticles.j3] at H
            by_cases c67 : x127_63 = true
            ·
             subst c67
             have H1 : (if 0 ≤ x19_3 then (if x19_3 < (t419.length : Int) then (if 1 < ((rd_L2 t419 x19_3).length : Int) then (if 0 < ((rd_L2 t419 x19_3).length : Int) then (if (wrap64 ((rd (rd_L2 t419 x19_3) 1) - (rd (rd_L2 t419 x19_3) 0))) = (wrap64 (2 * t412)) then (if (rd (rd_L2 t419 x19_3) 0) < t417 then (some false) else (if (rd (rd_L2 t419 x19_3) 1) > (wrap64 (t417 + t427)) then (some false) else (laws_FnArticles.l0 kj63 t417 t419 t422 t423 t427 (wrap64 (x19_3 + 1)) t408 t409 t410 t411 t412 t413 t414 t415 t416))) else (some false)) else (none)) else (none)) else (none)) else (none)) = some r := by rw [if_pos rfl] at H; exact H
             clear H
             have H := H1
             clear H1
             by_cases c68 : 0 ≤ x19_3
             ·
              rw [if_pos c68] at H
              have c68b0 : decide (0 ≤ x19_3) = true := decide_eq_true c68
              clear c68
              by_cases c69 : x19_3 < (t419.length : Int)
              ·
               rw [if_pos c69] at H
               have c69b0 : decide (x19_3 < (t419.length : Int)) = true := decide_eq_true c69
               clear c69
               by_cases c70 : 1 < ((rd_L2 t419 x19_3).length : Int)
               ·
                rw [if_pos c70] at H
                have c70b0 : decide (1 < ((rd_L2 t419 x19_3).length : Int)) = true := decide_eq_true c70
                have c70b1 : decide (1 < (rd_L2 t419 x19_3).length) = true := decide_eq_true (by omega)
                clear c70
                by_cases c71 : 0 < ((rd_L2 t419 x19_3).length : Int)
                ·
                 rw [if_pos c71] at H
                 have c71b0 : decide (0 < ((rd_L2 t419 x19_3).length : Int)) = true := decide_eq_true c71
                 have c71b1 : decide (0 < (rd_L2 t419 x19_3).length) = true := decide_eq_true (by omega)
                 clear c71
                 by_cases c72 : (wrap64 ((rd (rd_L2 t419 x19_3) 1) - (rd (rd_L2 t419 x19_3) 0))) = (wrap64 (2 * t412))
                 ·
                  rw [if_pos c72] at H
                  have c72b0 : ((wrap64 ((rd (rd_L2 t419 x19_3) 1) - (rd (rd_L2 t419 x19_3) 0))) == (wrap64 (2 * t412))) = true := beq_iff_eq.mpr c72
                  have c72b1 : ((wrap64 ((rd (rd_L2 t419 x19_3) 1) - (rd (rd_L2 t419 x19_3) 0))) != (wrap64 (2 * t412))) = false := bne_eq_false_iff_eq.mpr c72
                  clear c72
                  by_cases c73 : (rd (rd_L2 t419 x19_3) 0) < t417
                  ·
                   rw [if_pos c73] at H
                   have c73b0 : decide ((rd (rd_L2 t419 x19_3) 0) < t417) = true := decide_eq_true c73
                   clear c73
                   obtain rfl := Option.some.inj H
                   exact absurd hr_.out (by decide)
                  ·
                   rw [if_neg c73] at H
                   have c73b0 : decide ((rd (rd_L2 t419 x19_3) 0) < t417) = false := decide_eq_false c73
                   clear c73
                   by_cases c74 : (rd (rd_L2 t419 x19_3) 1) > (wrap64 (t417 + t427))
                   ·
                    rw [if_pos c74] at H
                    have c74b0 : decide ((wrap64 (t417 + t427)) < (rd (rd_L2 t419 x19_3) 1)) = true := decide_eq_true c74
                    clear c74
                    obtain rfl := Option.some.inj H
                    exact absurd hr_.out (by decide)
                   ·
                    rw [if_neg c74] at H
                    have c74b0 : decide ((wrap64 (t417 + t427)) < (rd (rd_L2 t419 x19_3) 1)) = false := decide_eq_false c74
                    clear c74
                    have H' := Aside0.mk H
                    clear H
                    obtain ⟨Ao75, co75, eo75⟩ := Kd.S_slice HO_5.out
                    subst eo75
                    have p444 : 0 ≤ (x19_3 : Int) := of_decide_eq_true (by with_reducible assumption)
                    have q444 : x19_3 < (t419.length : Int) := of_decide_eq_true (by with_reducible assumption)
                    obtain ⟨ad444, A444_0, c444_0, e444, hx444_0, hl444_0, hi444_0⟩ := at_L2 (Kd.S_reads' HO_5.out).2.2 x19_3 p444 q444
                    cases e444
                    obtain ⟨ce444, hce444, hMe444, hcc444⟩ := Kd.S_get HO_5.out [] x19_3 p444 (by first | exact q444 | exact of_decide_eq_true (by with_reducible assumption) | (have e_ := (Kd.S_reads' HO_5.out).1; omega))
                    obtain ⟨ve444_0, rfl, ge444_0⟩ := hMe444
                    have hv444_0 := hcc444 0 _ rfl
                    rw [Nat.add_zero, show ((Kd.slice 2 (Kd.int .i64))).sz = 1 from rfl, Nat.mul_one] at hv444_0
                    replace hv444_0 := Option.some.inj (hv444_0.symm.trans hx444_0)
                    rw [hv444_0] at ge444_0
                    have HL444_0 := Aside0.mk (show Kd.R (Kd.int .i64) 2 _ _ _ _ (rd_L2 t419 x19_3) from ge444_0)
                    clear hv444_0 ge444_0
                    clear hcc444 hce444
                    have HR444_0 := Aside0.mk hi444_0
                    have HC444_0 := Aside0.mk hl444_0
                    clear hi444_0 hl444_0
                    replace p444 := eq_true p444
                    replace q444 := eq_true q444
                    have p445 : 0 ≤ (1 : Int) := (by omega)
                    have q445 : 1 < ((rd_L2 t419 x19_3).length : Int) := of_decide_eq_true (by with_reducible assumption)
                    obtain ⟨ad445, e445, hx445_0⟩ := Kd.at_int (by repeat (first | (with_reducible exact HR444_0.out) | (with_reducible first | apply cA | apply cN | apply cD) | exact HR444_0.out)) 1 p445 q445
                    cases e445
                    (try simp only [show (1 : Int).toNat = 1 from rfl, Nat.reduceMul, Nat.reduceEqDiff, Go.Addr.add, ↓reduceIte] at hx445_0)
                    have qi445 : (1 < (rd_L2 t419 x19_3).length) = True := eq_true (by omega)
                    (try rw [show ((1 : Int)).toNat = 1 from rfl] at hx445_0)
                    replace p445 := eq_true p445
                    replace q445 := eq_true q445
                    have p446 : 0 ≤ (x19_3 : Int) := of_decide_eq_true (by with_reducible assumption)
                    have q446 : x19_3 < (t419.length : Int) := of_decide_eq_true (by with_reducible assumption)
                    obtain ⟨ad446, A446_0, c446_0, e446, hx446_0, hl446_0, hi446_0⟩ := at_L2 (Kd.S_reads' HO_5.out).2.2 x19_3 p446 q446
                    obtain rfl : ad444 = ad446 := (by injection e446)
                    obtain ⟨ce446, hce446, hMe446, hcc446⟩ := Kd.S_get HO_5.out [] x19_3 p446 (by first | exact q446 | exact of_decide_eq_true (by with_reducible assumption) | (have e_ := (Kd.S_reads' HO_5.out).1; omega))
                    obtain ⟨ve446_0, rfl, ge446_0⟩ := hMe446
                    have hv446_0 := hcc446 0 _ rfl
                    rw [Nat.add_zero, show ((Kd.slice 2 (Kd.int .i64))).sz = 1 from rfl, Nat.mul_one] at hv446_0
                    replace hv446_0 := Option.some.inj (hv446_0.symm.trans hx446_0)
                    rw [hv446_0] at ge446_0
                    have HL446_0 := Aside0.mk (show Kd.R (Kd.int .i64) 2 _ _ _ _ (rd_L2 t419 x19_3) from ge446_0)
                    clear hv446_0 ge446_0
                    clear hcc446 hce446
                    have HR446_0 := Aside0.mk hi446_0
                    have HC446_0 := Aside0.mk hl446_0
                    clear hi446_0 hl446_0
                    replace p446 := eq_true p446
                    replace q446 := eq_true q446
                    have ea_ := Option.some.inj (hx444_0.symm.trans hx446_0)
                    injection ea_ with ea_ en_ ec_
                    subst ea_
                    subst ec_
                    clear en_
                    have p447 : 0 ≤ (0 : Int) := (by omega)
                    have q447 : 0 < ((rd_L2 t419 x19_3).length : Int) := of_decide_eq_true (by with_reducible assumption)
                    obtain ⟨ad447, e447, hx447_0⟩ := Kd.at_int (by repeat (first | (with_reducible exact HR446_0.out) | (with_reducible first | apply cA | apply cN | apply cD) | exact HR446_0.out)) 0 p447 q447
                    cases e447
                    have qi447 : (0 < (rd_L2 t419 x19_3).length) = True := eq_true (by omega)
                    (try rw [show ((0 : Int)).toNat = 0 from rfl] at hx447_0)
                    (try rw [Addr.add_zero'] at hx447_0)
                    replace p447 := eq_true p447
                    replace q447 := eq_true q447
                    have hcz76_0 : wc.cell? ⟨gb418, 0, none⟩ = some (.string t408) := (blk_cell BK418.out 0).trans rfl
                    have hcz76_1 : wc.cell? ⟨gb418, 1, none⟩ = some (.int .i64 t409) := (blk_cell BK418.out 1).trans rfl
                    have hcz76_2 : wc.cell? ⟨gb418, 2, none⟩ = some (.int .i64 t410) := (blk_cell BK418.out 2).trans rfl
                    have hcz76_3 : wc.cell? ⟨gb418, 3, none⟩ = some (.int .i64 t411) := (blk_cell BK418.out 3).trans rfl
                    have hcz76_4 : wc.cell? ⟨gb418, 4, none⟩ = some (.int .i64 t412) := (blk_cell BK418.out 4).trans rfl
                    have hcz76_5 : wc.cell? ⟨gb418, 5, none⟩ = some (.int .i64 t413) := (blk_cell BK418.out 5).trans rfl
                    have hcz76_6 : wc.cell? ⟨gb418, 6, none⟩ = some (.int .i64 t414) := (blk_cell BK418.out 6).trans rfl
                    have hcz76_7 : wc.cell? ⟨gb418, 7, none⟩ = some (.int .i64 t415) := (blk_cell BK418.out 7).trans rfl
                    have hcz76_8 : wc.cell? ⟨gb418, 8, none⟩ = some (.int .i64 t416) := (blk_cell BK418.out 8).trans rfl
                    have hfz76_0 := blk_frozen BK418.out 0
                    have hfz76_1 := blk_frozen BK418.out 1
                    have hfz76_2 := blk_frozen BK418.out 2
                    have hfz76_3 := blk_frozen BK418.out 3
                    have hfz76_4 := blk_frozen BK418.out 4
                    have hfz76_5 := blk_frozen BK418.out 5
                    have hfz76_6 := blk_frozen BK418.out 6
                    have hfz76_7 := blk_frozen BK418.out 7
                    have hfz76_8 := blk_frozen BK418.out 8
                    have p448 : 0 ≤ (x19_3 : Int) := of_decide_eq_true (by with_reducible assumption)
                    have q448 : x19_3 < (t419.length : Int) := of_decide_eq_true (by with_reducible assumption)
                    obtain ⟨ad448, A448_0, c448_0, e448, hx448_0, hl448_0, hi448_0⟩ := at_L2 (Kd.S_reads' HO_5.out).2.2 x19_3 p448 q448
                    obtain rfl : ad444 = ad448 := (by injection e448)
                    obtain ⟨ce448, hce448, hMe448, hcc448⟩ := Kd.S_get HO_5.out [] x19_3 p448 (by first | exact q448 | exact of_decide_eq_true (by with_reducible assumption) | (have e_ := (Kd.S_reads' HO_5.out).1; omega))
                    obtain ⟨ve448_0, rfl, ge448_0⟩ := hMe448
                    have hv448_0 := hcc448 0 _ rfl
                    rw [Nat.add_zero, show ((Kd.slice 2 (Kd.int .i64))).sz = 1 from rfl, Nat.mul_one] at hv448_0
                    replace hv448_0 := Option.some.inj (hv448_0.symm.trans hx448_0)
                    rw [hv448_0] at ge448_0
                    have HL448_0 := Aside0.mk (show Kd.R (Kd.int .i64) 2 _ _ _ _ (rd_L2 t419 x19_3) from ge448_0)
                    clear hv448_0 ge448_0
                    clear hcc448 hce448
                    have HR448_0 := Aside0.mk hi448_0
                    have HC448_0 := Aside0.mk hl448_0
                    clear hi448_0 hl448_0
                    replace p448 := eq_true p448
                    replace q448 := eq_true q448
                    have ea_ := Option.some.inj (hx444_0.symm.trans hx448_0)
                    injection ea_ with ea_ en_ ec_
                    subst ea_
                    subst ec_
                    clear en_
                    have p449 : 0 ≤ (0 : Int) := (by omega)
                    have q449 : 0 < ((rd_L2 t419 x19_3).length : Int) := of_decide_eq_true (by with_reducible assumption)
                    obtain ⟨ad449, e449, hx449_0⟩ := Kd.at_int (by repeat (first | (with_reducible exact HR448_0.out) | (with_reducible first | apply cA | apply cN | apply cD) | exact HR448_0.out)) 0 p449 q449
                    cases e449
                    have qi449 : (0 < (rd_L2 t419 x19_3).length) = True := eq_true (by omega)
                    (try rw [show ((0 : Int)).toNat = 0 from rfl] at hx449_0)
                    (try rw [Addr.add_zero'] at hx449_0)
                    replace p449 := eq_true p449
                    replace q449 := eq_true q449
                    have p450 : 0 ≤ (x19_3 : Int) := of_decide_eq_true (by with_reducible assumption)
                    have q450 : x19_3 < (t419.length : Int) := of_decide_eq_true (by with_reducible assumption)
                    obtain ⟨ad450, A450_0, c450_0, e450, hx450_0, hl450_0, hi450_0⟩ := at_L2 (Kd.S_reads' HO_5.out).2.2 x19_3 p450 q450
                    obtain rfl : ad444 = ad450 := (by injection e450)
                    obtain ⟨ce450, hce450, hMe450, hcc450⟩ := Kd.S_get HO_5.out [] x19_3 p450 (by first | exact q450 | exact of_decide_eq_true (by with_reducible assumption) | (have e_ := (Kd.S_reads' HO_5.out).1; omega))
                    obtain ⟨ve450_0, rfl, ge450_0⟩ := hMe450
                    have hv450_0 := hcc450 0 _ rfl
                    rw [Nat.add_zero, show ((Kd.slice 2 (Kd.int .i64))).sz = 1 from rfl, Nat.mul_one] at hv450_0
                    replace hv450_0 := Option.some.inj (hv450_0.symm.trans hx450_0)
                    rw [hv450_0] at ge450_0
                    have HL450_0 := Aside0.mk (show Kd.R (Kd.int .i64) 2 _ _ _ _ (rd_L2 t419 x19_3) from ge450_0)
                    clear hv450_0 ge450_0
                    clear hcc450 hce450
                    have HR450_0 := Aside0.mk hi450_0
                    have HC450_0 := Aside0.mk hl450_0
                    clear hi450_0 hl450_0
                    replace p450 := eq_true p450
                    replace q450 := eq_true q450
                    have ea_ := Option.some.inj (hx444_0.symm.trans hx450_0)
                    injection ea_ with ea_ en_ ec_
                    subst ea_
                    subst ec_
                    clear en_
                    have p451 : 0 ≤ (1 : Int) := (by omega)
                    have q451 : 1 < ((rd_L2 t419 x19_3).length : Int) := of_decide_eq_true (by with_reducible assumption)
                    obtain ⟨ad451, e451, hx451_0⟩ := Kd.at_int (by repeat (first | (with_reducible exact HR450_0.out) | (with_reducible first | apply cA | apply cN | apply cD) | exact HR450_0.out)) 1 p451 q451
                    cases e451
                    (try simp only [show (1 : Int).toNat = 1 from rfl, Nat.reduceMul, Nat.reduceEqDiff, Go.Addr.add, ↓reduceIte] at hx451_0)
                    have qi451 : (1 < (rd_L2 t419 x19_3).length) = True := eq_true (by omega)
                    (try rw [show ((1 : Int)).toNat = 1 from rfl] at hx451_0)
                    replace p451 := eq_true p451
                    replace q451 := eq_true q451
                    go_wp2
                    repeat (go_quiet (fail); try go_wp2)
                    go_roundg kj63
                    case measure => have := HJ11.out; have := HJ58.out; have := HK3.out; have := HJ63.out; omega
                    case rel => exact ⟨(wrap64 (x19_3 + 1)), (by first | rfl | (simp; done) | (simp [*]; done)), H', ⟨by have := HJ11.out; have := HJ58.out; have := HK3.out; have := HJ63.out; omega⟩, ⟨by (with_reducible repeat (first | apply Kd.S_alloc | apply Kd.S_drewN | apply Kd.S_drew)); exact HO_5.out⟩, ⟨by (with_reducible repeat (first | apply Kd.S_alloc | apply Kd.S_drewN | apply Kd.S_drew)); exact HO_7.out⟩, ⟨by (with_reducible repeat first | apply bN | apply bD | apply bA); exact BK418.out⟩, ⟨by repeat (first | (with_reducible first | exact HB.out | apply lA | apply lN | apply lD | refine below_set ?_ GE418.out) | exact HB.out)⟩⟩
                 ·
                  rw [if_neg c72] at H
                  have c72b0 : ((wrap64 ((rd (rd_L2 t419 x19_3) 1) - (rd (rd_L2 t419 x19_3) 0))) == (wrap64 (2 * t412))) = false := beq_eq_false_iff_ne.mpr c72
                  have c72b1 : ((wrap64 ((rd (rd_L2 t419 x19_3) 1) - (rd (rd_L2 t419 x19_3) 0))) != (wrap64 (2 * t412))) = true := bne_iff_ne.mpr c72
                  obtain rfl := Option.some.inj H
                  exact absurd hr_.out (by decide)
                ·
                 rw [if_neg c71] at H
                 exact absurd H (by simp)
               ·
                rw [if_neg c70] at H
                exact absurd H (by simp)
              ·
               rw [if_neg c69] at H
               exact absurd H (by simp)
             ·
              rw [if_neg c68] at H
              exact absurd H (by simp)
            ·
             replace c67 := Bool.eq_false_iff.mpr c67
             subst c67
             have H1 : (if t422 = 0 then (if (t419.length : Int) = t413 then (if 0 ≤ (wrap64 ((t419.length : Int) - 1)) then (if (wrap64 ((t419.length : Int) - 1)) < (t423.length : Int) then (if 1 < ((rd_L2 t423 (wrap64 ((t419.length : Int) - 1))).length : Int) then (some ((rd (rd_L2 t423 (wrap64 ((t419.length : Int) - 1))) 1) == (wrap64 (t417 + t427)))) else (none)) else (none)) else (none)) else (some false)) else (some true)) = some r := by rw [if_neg (show ¬ (false = true) by decide)] at H; exact H
             clear H
             have H := H1
             clear H1
             by_cases c77 : t422 = 0
             ·
              rw [if_pos c77] at H
              have c77b0 : (t422 == 0) = true := beq_iff_eq.mpr c77
              have c77b1 : (t422 != 0) = false := bne_eq_false_iff_eq.mpr c77
              clear c77
              by_cases c78 : (t419.length : Int) = t413
              ·
               rw [if_pos c78] at H
               have c78b0 : ((t419.length : Int) == t413) = true := beq_iff_eq.mpr c78
               have c78b1 : ((t419.length : Int) != t413) = false := bne_eq_false_iff_eq.mpr c78
               clear c78
               obtain ⟨ji79, hji79⟩ : ∃ j_ : Int, (wrap64 ((t419.length : Int) - 1)) = j_ := ⟨_, rfl⟩
               replace H : (if 0 ≤ (ji79) then (if (ji79) < (t423.length : Int) then (if 1 < ((rd_L2 t423 (ji79)).length : Int) then (some ((rd (rd_L2 t423 (ji79)) 1) == (wrap64 (t417 + t427)))) else (none)) else (none)) else (none)) = some r := by first | (rw [hji79] at H; exact H) | (simp only [hji79] at H ⊢; exact H)
               have hji79w : (IntKind.i64.wrap ((t419.length : Int) - 1)) = ji79 := (i64_w _).trans hji79
               by_cases c80 : 0 ≤ (ji79)
               ·
                rw [if_pos c80] at H
                have c80b0 : decide (0 ≤ (ji79)) = true := decide_eq_true c80
                clear c80
                by_cases c81 : (ji79) < (t423.length : Int)
                ·
                 rw [if_pos c81] at H
                 have c81b0 : decide ((ji79) < (t423.length : Int)) = true := decide_eq_true c81
                 clear c81
                 by_cases c82 : 1 < ((rd_L2 t423 (ji79)).length : Int)
                 ·
                  rw [if_pos c82] at H
                  have c82b0 : decide (1 < ((rd_L2 t423 (ji79)).length : Int)) = true := decide_eq_true c82
                  have c82b1 : decide (1 < (rd_L2 t423 (ji79)).length) = true := decide_eq_true (by omega)
                  clear c82
                  obtain rfl := Option.some.inj H
                  simp only [Option.some.injEq, Prod.mk.injEq] at H
                  obtain ⟨rfl⟩ := H
                  obtain ⟨Ao83, co83, eo83⟩ := Kd.S_slice HO_5.out
                  subst eo83
                  have hcz84_0 : wc.cell? ⟨gb418, 0, none⟩ = some (.string t408) := (blk_cell BK418.out 0).trans rfl
                  have hcz84_1 : wc.cell? ⟨gb418, 1, none⟩ = some (.int .i64 t409) := (blk_cell BK418.out 1).trans rfl
                  have hcz84_2 : wc.cell? ⟨gb418, 2, none⟩ = some (.int .i64 t410) := (blk_cell BK418.out 2).trans rfl
                  have hcz84_3 : wc.cell? ⟨gb418, 3, none⟩ = some (.int .i64 t411) := (blk_cell BK418.out 3).trans rfl
                  have hcz84_4 : wc.cell? ⟨gb418, 4, none⟩ = some (.int .i64 t412) := (blk_cell BK418.out 4).trans rfl
                  have hcz84_5 : wc.cell? ⟨gb418, 5, none⟩ = some (.int .i64 t413) := (blk_cell BK418.out 5).trans rfl
                  have hcz84_6 : wc.cell? ⟨gb418, 6, none⟩ = some (.int .i64 t414) := (blk_cell BK418.out 6).trans rfl
                  have hcz84_7 : wc.cell? ⟨gb418, 7, none⟩ = some (.int .i64 t415) := (blk_cell BK418.out 7).trans rfl
                  have hcz84_8 : wc.cell? ⟨gb418, 8, none⟩ = some (.int .i64 t416) := (blk_cell BK418.out 8).trans rfl
                  have hfz84_0 := blk_frozen BK418.out 0
                  have hfz84_1 := blk_frozen BK418.out 1
                  have hfz84_2 := blk_frozen BK418.out 2
                  have hfz84_3 := blk_frozen BK418.out 3
                  have hfz84_4 := blk_frozen BK418.out 4
                  have hfz84_5 := blk_frozen BK418.out 5
                  have hfz84_6 := blk_frozen BK418.out 6
                  have hfz84_7 := blk_frozen BK418.out 7
                  have hfz84_8 := blk_frozen BK418.out 8
                  obtain ⟨Ao85, co85, eo85⟩ := Kd.S_slice HO_7.out
                  subst eo85
                  have p452 : 0 ≤ ((ji79) : Int) := of_decide_eq_true (by with_reducible assumption)
                  have q452 : (ji79) < (t423.length : Int) := of_decide_eq_true (by with_reducible assumption)
                  obtain ⟨ad452, A452_0, c452_0, e452, hx452_0, hl452_0, hi452_0⟩ := at_L2 (Kd.S_reads' HO_7.out).2.2 (ji79) p452 q452
                  cases e452
                  obtain ⟨ce452, hce452, hMe452, hcc452⟩ := Kd.S_get HO_7.out [] (ji79) p452 (by first | exact q452 | exact of_decide_eq_true (by with_reducible assumption) | (have e_ := (Kd.S_reads' HO_7.out).1; omega))
                  obtain ⟨ve452_0, rfl, ge452_0⟩ := hMe452
                  have hv452_0 := hcc452 0 _ rfl
                  rw [Nat.add_zero, show ((Kd.slice 2 (Kd.int .i64))).sz = 1 from rfl, Nat.mul_one] at hv452_0
                  replace hv452_0 := Option.some.inj (hv452_0.symm.trans hx452_0)
                  rw [hv452_0] at ge452_0
                  have HL452_0 := Aside0.mk (show Kd.R (Kd.int .i64) 2 _ _ _ _ (rd_L2 t423 (ji79)) from ge452_0)
                  clear hv452_0 ge452_0
                  clear hcc452 hce452
                  have HR452_0 := Aside0.mk hi452_0
                  have HC452_0 := Aside0.mk hl452_0
                  clear hi452_0 hl452_0
                  replace p452 := eq_true p452
                  replace q452 := eq_true q452
                  have p453 : 0 ≤ (1 : Int) := (by omega)
                  have q453 : 1 < ((rd_L2 t423 (ji79)).length : Int) := of_decide_eq_true (by with_reducible assumption)
                  obtain ⟨ad453, e453, hx453_0⟩ := Kd.at_int (by repeat (first | (with_reducible exact HR452_0.out) | (with_reducible first | apply cA | apply cN | apply cD) | exact HR452_0.out)) 1 p453 q453
                  cases e453
                  (try simp only [show (1 : Int).toNat = 1 from rfl, Nat.reduceMul, Nat.reduceEqDiff, Go.Addr.add, ↓reduceIte] at hx453_0)
                  have qi453 : (1 < (rd_L2 t423 (ji79)).length) = True := eq_true (by omega)
                  (try rw [show ((1 : Int)).toNat = 1 from rfl] at hx453_0)
                  replace p453 := eq_true p453
                  replace q453 := eq_true q453
                  go_wp2
                  repeat (go_quiet (fail); try go_wp2)
                  go_ret
                  exact ⟨by first | rfl | (simp [errW_none, errW_some] <;> rfl) | (simp only [← hji79]; first | rfl | (simp [errW_none, errW_some] <;> rfl)) | (simp [*, errW_none, errW_some] <;> rfl), by repeat (first | (with_reducible first | exact HB.out | apply lA | apply lN | apply lD | refine below_set ?_ GE418.out) | exact HB.out)⟩
                 ·
                  rw [if_neg c82] at H
                  exact absurd H (by simp)
                ·
                 rw [if_neg c81] at H
                 exact absurd H (by simp)
               ·
                rw [if_neg c80] at H
                exact absurd H (by simp)
              ·
               rw [if_neg c78] at H
               have c78b0 : ((t419.length : Int) == t413) = false := beq_eq_false_iff_ne.mpr c78
               have c78b1 : ((t419.length : Int) != t413) = true := bne_iff_ne.mpr c78
               obtain rfl := Option.some.inj H
               exact absurd hr_.out (by decide)
             ·
              rw [if_neg c77] at H
              have c77b0 : (t422 == 0) = false := beq_eq_false_iff_ne.mpr c77
              have c77b1 : (t422 != 0) = true := bne_iff_ne.mpr c77
              obtain rfl := Option.some.inj H
              simp only [Option.some.injEq, Prod.mk.injEq] at H
              obtain ⟨rfl⟩ := H
              go_wp2
              repeat (go_quiet (fail); try go_wp2)
              go_ret
              exact ⟨by first | rfl | (simp [errW_none, errW_some] <;> rfl) | (simp [*, errW_none, errW_some] <;> rfl), by repeat (first | (with_reducible first | exact HB.out | apply lA | apply lN | apply lD | refine below_set ?_ GE418.out) | exact HB.out)⟩

/-- THE ONE PURE STATEMENT of laws_FnArticles: yours. -/
def laws_FnArticles.Pure : Prop := ∀ (l0 : List Int), l0.length ≤ maxLen → l0.length * 1 ≤ 140737488351232 → (∀ x ∈ l0, (Lit.int .u8 x).wf = true) → ∃ k, laws_FnArticles.f k l0 = some true
theorem laws_FnArticles.walk (P : laws_FnArticles.Pure) (a0 : Option Addr) (len0 cap0 : Nat) (z0 : List Int) (w : World) (w0 : (a0 = none ∧ len0 = 0 ∧ cap0 = 0 ∧ z0 = []) ∨ ∃ x, a0 = some x ∧ len0 ≤ cap0 ∧ cap0 ≤ maxLen ∧ z0.length = cap0 ∧ (∀ i, i < z0.length → w.cell? (x.add i) = some (.int .u8 (z0.getD i 0))) ∧ ∀ n ∈ z0, (Lit.int .u8 n).wf = true) (y0 : len0 * 1 ≤ 140737488351232) :
  Calls Try.prog 13 #[.slice a0 len0 cap0] w fun e w' => e = .returned (.bool true) ∧ Below w.heap.size w w' := by
 obtain ⟨l0, rfl, hr0, hm0, hw0, hc0⟩ := ReadsInt.ofRowC w0
 obtain ⟨k, h⟩ := P l0 hm0 y0 hw0
 refine (laws_FnArticles.calls k _ _ l0 true w (Kd.C_of_reads (d := (0 : Int)) (h1 := fun _ => rfl) hr0) hc0 h ⟨rfl⟩).mono ?_
 rintro e w' ⟨rfl, hd⟩
 exact ⟨rfl, hd⟩

end Go.Proofs.Ytmepklccbogibaa.QFnArticles
