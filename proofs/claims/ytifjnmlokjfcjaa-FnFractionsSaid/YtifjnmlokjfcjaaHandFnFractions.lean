/- The law FnFractions: what it answers, where the program and its reference answer alike. -/
import Derived.Test.YtifjnmlokjfcjaaQFnFractionsx
namespace Go.Proofs.Ytifjnmlokjfcjaa.HandFnFractions
open Go.Proofs.Ytifjnmlokjfcjaa.QFnFractions Go.RowKit Go.Proofs.YtifjnmlokjfcjaaW.PrintWords Go.Proofs.YtifjnmlokjfcjaaW.PrintLast Go.Proofs.YtifjnmlokjfcjaaW.PrintMore
attribute [local go_sem] max2_int min2_int max_two min_two max_three min_three max_four min_four   -- for this text's walks alone
set_option linter.unusedVariables false
set_option linter.unusedSimpArgs false

theorem bA {w : World} {g : Nat} {o : Obj} (h : w.heap[g]? = some o) (o' : Obj) : (w.alloc o').heap[g]? = some o := blk_alloc h o'
theorem bD {w : World} {g : Nat} {o : Obj} (h : w.heap[g]? = some o) : w.drew.heap[g]? = some o := h
theorem bN {w : World} {g : Nat} {o : Obj} (h : w.heap[g]? = some o) (n : Nat) : (w.drewN n).heap[g]? = some o := h
theorem lN {B : Nat} {w W : World} (h : Below B w W) (n : Nat) : Below B w (W.drewN n) := pw_below_drewN h n
theorem lD {B : Nat} {w W : World} (h : Below B w W) : Below B w W.drew := below_drew1 h
theorem eqA25 (d : Nat) (w : World) (x0 y0 : Int) (x1 y1 : Int) :
  (Op.equalIn (d + 2) 25 (.agg #[.int .i64 x0, .int .i64 x1]) (.agg #[.int .i64 y0, .int .i64 y1])).run Try.prog w = .ok (x0 == y0 && (x1 == y1)) w := by
 refine eqA_of Try.underlying25 (by kernel_rfl) ?_
 refine eqf_cons (by rfl) (by go_simp; rfl) (by go_simp; rfl) (by go_simp) ?_
 exact eqf_last (by rfl) (by go_simp; rfl) (by go_simp; rfl) (by go_simp)
attribute [local go_sem high] eqA25
/-! ### laws_FnFractions: function 3 -/
def laws_FnFractions.j0 : Nat → Int → Int → Int → Int → Int → Int → Int → Bool → Int → Int → Int → Int → Int → Int → Int → Int → Int → Int → Option (Bool)
 | 0, _, _, _, _, _, _, _, _, _, _, _, _, _, _, _, _, _, _ => none
 | k + 1, x6, x10, x13, x14, x17, x18, x20, x133, x306000, x306001, x307000, x307001, x311000, x311001, x319000, x319001, x333000, x333001 => if x133 = true then (some false) else ((impl_AddRatios.f k x307000 x307001 x306000 x306001).bind fun bt339 => ((impl_MultiplyRatios.f k x307000 x307001 x306000 x306001).bind fun bt343 => ((impl_CompareRatios.f k x307000 x307001 x306000 x306001).bind fun bt347 => (if bt339.2.2 = x6 then (if (!(bt339.1 == x311000) || (!(bt339.2.1 == x311001))) = true then (some false) else (if bt343.2.2 = x10 then (if (!(bt343.1 == x319000) || (!(bt343.2.1 == x319001))) = true then (some false) else (if bt347.2 = x14 then (if bt347.1 = (wrap64 (-x13)) then (if x20 = 0 then ((impl_IsRatio.f k x333000 x333001).bind fun t349 => (if t349 = true then (if x333001 = 0 then (none) else (if (Int.tmod x18 x333001) = 0 then (some ((wrap64 ((wrap64 (Int.tdiv x18 x333001)) * x333000)) == x17)) else (some false))) else (some false))) else (some true)) else (some false)) else (some false))) else (some false))) else (some false)))))
def laws_FnFractions.f (k : Nat) (l0 : List Int) : Option (Bool) := (laws_big.f l0).bind fun t300 => (if t300 = true then (some true) else ((spec_DrawAddRatios.f k l0).bind fun bt301 => ((impl_AddRatios.f k bt301.1 bt301.2.1 bt301.2.2.1 bt301.2.2.2).bind fun bt307 => ((spec_AddRatios.f k bt301.1 bt301.2.1 bt301.2.2.1 bt301.2.2.2).bind fun bt311 => ((impl_MultiplyRatios.f k bt301.1 bt301.2.1 bt301.2.2.1 bt301.2.2.2).bind fun bt315 => ((spec_MultiplyRatios.f k bt301.1 bt301.2.1 bt301.2.2.1 bt301.2.2.2).bind fun bt319 => ((impl_CompareRatios.f k bt301.1 bt301.2.1 bt301.2.2.1 bt301.2.2.2).bind fun bt323 => ((spec_CompareRatios.f k bt301.1 bt301.2.1 bt301.2.2.1 bt301.2.2.2).bind fun bt325 => ((spec_DrawMakeRatio.f k l0).bind fun bt327 => ((impl_MakeRatio.f k bt327.1 bt327.2).bind fun bt329 => ((spec_MakeRatio.f k bt327.1 bt327.2).bind fun bt333 => (if bt307.2.2 = bt311.2.2 then (if (!(bt307.1 == bt311.1) || (!(bt307.2.1 == bt311.2.1))) = true then (laws_FnFractions.j0 k bt307.2.2 bt315.2.2 bt323.1 bt323.2 bt327.1 bt327.2 bt329.2.2 true bt301.1 bt301.2.1 bt301.2.2.1 bt301.2.2.2 bt307.1 bt307.2.1 bt315.1 bt315.2.1 bt329.1 bt329.2.1) else (if bt315.2.2 = bt319.2.2 then (if (!(bt315.1 == bt319.1) || (!(bt315.2.1 == bt319.2.1))) = true then (laws_FnFractions.j0 k bt307.2.2 bt315.2.2 bt323.1 bt323.2 bt327.1 bt327.2 bt329.2.2 true bt301.1 bt301.2.1 bt301.2.2.1 bt301.2.2.2 bt307.1 bt307.2.1 bt315.1 bt315.2.1 bt329.1 bt329.2.1) else (if bt323.2 = bt325.2 then (if bt323.1 = bt325.1 then (if bt329.2.2 = bt333.2.2 then (if (!(bt329.1 == bt333.1) || (!(bt329.2.1 == bt333.2.1))) = true then (laws_FnFractions.j0 k bt307.2.2 bt315.2.2 bt323.1 bt323.2 bt327.1 bt327.2 bt329.2.2 true bt301.1 bt301.2.1 bt301.2.2.1 bt301.2.2.2 bt307.1 bt307.2.1 bt315.1 bt315.2.1 bt329.1 bt329.2.1) else ((impl_IsRatio.f k bt301.1 bt301.2.1).bind fun t337 => ((spec_IsRatio.f k bt301.1 bt301.2.1).bind fun t338 => (laws_FnFractions.j0 k bt307.2.2 bt315.2.2 bt323.1 bt323.2 bt327.1 bt327.2 bt329.2.2 (t337 != t338) bt301.1 bt301.2.1 bt301.2.2.1 bt301.2.2.2 bt307.1 bt307.2.1 bt315.1 bt315.2.1 bt329.1 bt329.2.1)))) else (laws_FnFractions.j0 k bt307.2.2 bt315.2.2 bt323.1 bt323.2 bt327.1 bt327.2 bt329.2.2 true bt301.1 bt301.2.1 bt301.2.2.1 bt301.2.2.2 bt307.1 bt307.2.1 bt315.1 bt315.2.1 bt329.1 bt329.2.1)) else (laws_FnFractions.j0 k bt307.2.2 bt315.2.2 bt323.1 bt323.2 bt327.1 bt327.2 bt329.2.2 true bt301.1 bt301.2.1 bt301.2.2.1 bt301.2.2.2 bt307.1 bt307.2.1 bt315.1 bt315.2.1 bt329.1 bt329.2.1)) else (laws_FnFractions.j0 k bt307.2.2 bt315.2.2 bt323.1 bt323.2 bt327.1 bt327.2 bt329.2.2 true bt301.1 bt301.2.1 bt301.2.2.1 bt301.2.2.2 bt307.1 bt307.2.1 bt315.1 bt315.2.1 bt329.1 bt329.2.1))) else (laws_FnFractions.j0 k bt307.2.2 bt315.2.2 bt323.1 bt323.2 bt327.1 bt327.2 bt329.2.2 true bt301.1 bt301.2.1 bt301.2.2.1 bt301.2.2.2 bt307.1 bt307.2.1 bt315.1 bt315.2.1 bt329.1 bt329.2.1))) else (laws_FnFractions.j0 k bt307.2.2 bt315.2.2 bt323.1 bt323.2 bt327.1 bt327.2 bt329.2.2 true bt301.1 bt301.2.1 bt301.2.2.1 bt301.2.2.2 bt307.1 bt307.2.1 bt315.1 bt315.2.1 bt329.1 bt329.2.1)))))))))))))
theorem laws_FnFractions.mono_l : ∀ k, (∀ y0 y1 y2 y3 y4 y5 y6 y7 y8 y9 y10 y11 y12 y13 y14 y15 y16 y17, LeO (laws_FnFractions.j0 k y0 y1 y2 y3 y4 y5 y6 y7 y8 y9 y10 y11 y12 y13 y14 y15 y16 y17) (laws_FnFractions.j0 (k + 1) y0 y1 y2 y3 y4 y5 y6 y7 y8 y9 y10 y11 y12 y13 y14 y15 y16 y17))
 | 0 => fun _ _ _ _ _ _ _ _ _ _ _ _ _ _ _ _ _ _ r h => by simp [laws_FnFractions.j0] at h
 | k + 1 => by
  have ih0 := laws_FnFractions.mono_l k
  ·
   intro y0 y1 y2 y3 y4 y5 y6 y7 y8 y9 y10 y11 y12 y13 y14 y15 y16 y17
   unfold laws_FnFractions.j0
   repeat' first
   | (with_reducible exact ih0 _ _ _ _ _ _ _ _ _ _ _ _ _ _ _ _ _ _)
   | (with_reducible exact impl_AddRatios.mono _ _ _ _ _)
   | (with_reducible exact impl_CompareRatios.mono _ _ _ _ _)
   | (with_reducible exact impl_IsRatio.mono _ _ _)
   | (with_reducible exact impl_MakeRatio.mono _ _ _)
   | (with_reducible exact impl_MultiplyRatios.mono _ _ _ _ _)
   | (with_reducible exact spec_AddRatios.mono _ _ _ _ _)
   | (with_reducible exact spec_CompareRatios.mono _ _ _ _ _)
   | (with_reducible exact spec_DrawAddRatios.mono _ _)
   | (with_reducible exact spec_DrawMakeRatio.mono _ _)
   | (with_reducible exact spec_IsRatio.mono _ _ _)
   | (with_reducible exact spec_MakeRatio.mono _ _ _)
   | (with_reducible exact spec_MultiplyRatios.mono _ _ _ _ _)
   | (with_reducible exact LeO.refl _)
   | (with_reducible exact LeO.none _)
   | (with_reducible refine LeO.ite ?_ ?_)
   | (with_reducible refine LeO.bind ?_ (fun _ => ?_))
   | exact ih0 _ _ _ _ _ _ _ _ _ _ _ _ _ _ _ _ _ _
   | exact impl_AddRatios.mono _ _ _ _ _
   | exact impl_CompareRatios.mono _ _ _ _ _
   | exact impl_IsRatio.mono _ _ _
   | exact impl_MakeRatio.mono _ _ _
   | exact impl_MultiplyRatios.mono _ _ _ _ _
   | exact spec_AddRatios.mono _ _ _ _ _
   | exact spec_CompareRatios.mono _ _ _ _ _
   | exact spec_DrawAddRatios.mono _ _
   | exact spec_DrawMakeRatio.mono _ _
   | exact spec_IsRatio.mono _ _ _
   | exact spec_MakeRatio.mono _ _ _
   | exact spec_MultiplyRatios.mono _ _ _ _ _
   | exact LeO.none _
   | refine LeO.ite ?_ ?_
   | refine LeO.bind ?_ (fun _ => ?_)
theorem laws_FnFractions.mono : ∀ a0 k, LeO (laws_FnFractions.f k a0) (laws_FnFractions.f (k + 1) a0) := by
 intro a0 k
 have ih0 := laws_FnFractions.mono_l k
 unfold laws_FnFractions.f
 repeat' first
   | (with_reducible exact ih0 _ _ _ _ _ _ _ _ _ _ _ _ _ _ _ _ _ _)
   | (with_reducible exact impl_AddRatios.mono _ _ _ _ _)
   | (with_reducible exact impl_CompareRatios.mono _ _ _ _ _)
   | (with_reducible exact impl_IsRatio.mono _ _ _)
   | (with_reducible exact impl_MakeRatio.mono _ _ _)
   | (with_reducible exact impl_MultiplyRatios.mono _ _ _ _ _)
   | (with_reducible exact spec_AddRatios.mono _ _ _ _ _)
   | (with_reducible exact spec_CompareRatios.mono _ _ _ _ _)
   | (with_reducible exact spec_DrawAddRatios.mono _ _)
   | (with_reducible exact spec_DrawMakeRatio.mono _ _)
   | (with_reducible exact spec_IsRatio.mono _ _ _)
   | (with_reducible exact spec_MakeRatio.mono _ _ _)
   | (with_reducible exact spec_MultiplyRatios.mono _ _ _ _ _)
   | (with_reducible exact LeO.refl _)
   | (with_reducible exact LeO.none _)
   | (with_reducible refine LeO.ite ?_ ?_)
   | (with_reducible refine LeO.bind ?_ (fun _ => ?_))
   | exact ih0 _ _ _ _ _ _ _ _ _ _ _ _ _ _ _ _ _ _
   | exact impl_AddRatios.mono _ _ _ _ _
   | exact impl_CompareRatios.mono _ _ _ _ _
   | exact impl_IsRatio.mono _ _ _
   | exact impl_MakeRatio.mono _ _ _
   | exact impl_MultiplyRatios.mono _ _ _ _ _
   | exact spec_AddRatios.mono _ _ _ _ _
   | exact spec_CompareRatios.mono _ _ _ _ _
   | exact spec_DrawAddRatios.mono _ _
   | exact spec_DrawMakeRatio.mono _ _
   | exact spec_IsRatio.mono _ _ _
   | exact spec_MakeRatio.mono _ _ _
   | exact spec_MultiplyRatios.mono _ _ _ _ _
   | exact LeO.none _
   | refine LeO.ite ?_ ?_
   | refine LeO.bind ?_ (fun _ => ?_)
def laws_FnFractions.T13 : Bool × List (List Nat × List Nat) := (true, [([], []), ([], []), ([0, 1], [0, 1]), ([2], [2]), ([3], [3]), ([3], [3]), ([4, 5, 3], [3, 4, 5]), ([3, 6], [3, 6]), ([7, 3], [7]), ([8], [8]), ([8], [8]), ([9, 10, 8], [8, 9, 10]), ([8, 11], [8, 11]), ([12, 8], [12]), ([13], [13]), ([13], [13]), ([14, 15, 13], [13, 14, 15]), ([13, 16], [13, 16]), ([17, 13], [17]), ([18], [18]), ([18], [18]), ([19, 20, 18], [18, 19, 20]), ([18, 21], [18, 21]), ([22, 18], [22]), ([23], [23]), ([23], [23]), ([24, 25, 23], [23, 24, 25]), ([23, 26], [23, 26]), ([27, 23], [27]), ([28], [28]), ([28], [28]), ([29, 30, 28], [28, 29, 30]), ([28, 31], [28, 31]), ([32, 28], [32]), ([33], [33]), ([33], [33]), ([34, 35, 33], [33, 34, 35]), ([33, 36], [33, 36]), ([37, 33], [37]), ([38], [38]), ([39, 38, 38], [38, 39]), ([38], [38]), ([41, 40, 38], [38, 41]), ([40, 42, 38], [38, 40, 42]), ([38, 43], [38, 43])])
def laws_FnFractions.B13 : List Nat := [0, 0, 3, 7, 15, 15, 63, 127, 255, 511, 511, 2047, 4095, 8191, 16383, 16383, 65535, 131071, 262143, 524287, 524287, 2097151, 4194303, 8388607, 16777215, 16777215, 67108863, 134217727, 268435455, 536870911, 536870911, 2147483647, 4294967295, 8589934591, 17179869183, 17179869183, 68719476735, 137438953471, 274877906943, 549755813887, 1099511627775, 549755813887, 4398046511103, 8796093022207, 17592186044415]
theorem laws_FnFractions.tab13 : rtab .any (opsOf Try.f3 13) = laws_FnFractions.T13 := by kernel_rfl
theorem laws_FnFractions.bits13 : waitsOk laws_FnFractions.T13.2 laws_FnFractions.B13 = true := by kernel_rfl
def laws_FnFractions.T20 : Bool × List (List Nat × List Nat) := (true, [([], []), ([0], [0]), ([1], [1]), ([2], [2]), ([3, 2, 2], [2, 3]), ([4, 4, 2], [2, 4]), ([5], [5]), ([5], [5]), ([7, 5], [5, 7]), ([6, 8, 5], [5, 6, 8]), ([9, 5], [5, 9]), ([5, 10, 2], [2, 5, 10]), ([11, 5, 2], [2, 11]), ([12], [12]), ([12], [12]), ([14, 12], [12, 14]), ([13, 15, 12], [12, 13, 15]), ([12], [12]), ([17, 12], [12, 17]), ([16, 18, 12], [12, 16, 18]), ([12], [12]), ([19, 20, 12], [12, 19, 20]), ([12, 21, 2], [2, 12, 21]), ([2, 22], [2, 22]), ([23, 12, 0, 1, 2, 3, 4, 5, 6, 7, 8, 9, 10, 11, 12, 13, 14, 15, 16, 17, 18, 19, 20, 21, 22, 23], [23])])
def laws_FnFractions.B20 : List Nat := [0, 1, 3, 7, 15, 31, 63, 63, 191, 511, 1023, 2047, 4095, 8191, 8191, 24575, 65535, 8191, 139263, 524287, 8191, 2097151, 4194303, 8388607, 16777215]
theorem laws_FnFractions.tab20 : rtab .any (opsOf Try.f3 20) = laws_FnFractions.T20 := by kernel_rfl
theorem laws_FnFractions.bits20 : waitsOk laws_FnFractions.T20.2 laws_FnFractions.B20 = true := by kernel_rfl
set_option maxHeartbeats 8000000 in
set_option maxRecDepth 100000 in
theorem laws_FnFractions.calls (k : Nat) (A0 : Option Addr) (c0 : Nat) (l0 : List Int) (r : Bool) (w : World) (hr0 : Kd.C (Kd.int .u8) w A0 l0.length l0) (hc0 : l0.length ≤ c0) (EA : Aside0 (∀ (k : Nat) (a b c d r1 r2 r3 q1 q2 q3 : Int), impl_AddRatios.f k a b c d = some (r1, r2, r3) → spec_AddRatios.f k a b c d = some (q1, q2, q3) → r1 = q1 ∧ r2 = q2 ∧ r3 = q3)) (EM : Aside0 (∀ (k : Nat) (a b c d r1 r2 r3 q1 q2 q3 : Int), impl_MultiplyRatios.f k a b c d = some (r1, r2, r3) → spec_MultiplyRatios.f k a b c d = some (q1, q2, q3) → r1 = q1 ∧ r2 = q2 ∧ r3 = q3)) (EC : Aside0 (∀ (k : Nat) (a b c d r1 r2 q1 q2 : Int), impl_CompareRatios.f k a b c d = some (r1, r2) → spec_CompareRatios.f k a b c d = some (q1, q2) → r1 = q1 ∧ r2 = q2)) (EK : Aside0 (∀ (k : Nat) (a b r1 r2 r3 q1 q2 q3 : Int), impl_MakeRatio.f k a b = some (r1, r2, r3) → spec_MakeRatio.f k a b = some (q1, q2, q3) → r1 = q1 ∧ r2 = q2 ∧ r3 = q3)) (h : laws_FnFractions.f k l0 = some r) (hr_ : Aside0 (r = true)) :
  Calls Try.prog 3 #[.slice A0 l0.length c0] w fun e w' => e = .returned (.bool r) ∧ Below w.heap.size w w' := by
 have hu25 := Try.underlying25
 have HR0 := Aside0.mk hr0
 have HC0 := Aside0.mk hc0
 clear hr0 hc0
 have HB := Aside0.mk (Below.refl w.heap.size w)
 have H : ((laws_big.f l0).bind fun t300 => (if t300 = true then (some true) else ((spec_DrawAddRatios.f k l0).bind fun bt301 => ((impl_AddRatios.f k bt301.1 bt301.2.1 bt301.2.2.1 bt301.2.2.2).bind fun bt307 => ((spec_AddRatios.f k bt301.1 bt301.2.1 bt301.2.2.1 bt301.2.2.2).bind fun bt311 => ((impl_MultiplyRatios.f k bt301.1 bt301.2.1 bt301.2.2.1 bt301.2.2.2).bind fun bt315 => ((spec_MultiplyRatios.f k bt301.1 bt301.2.1 bt301.2.2.1 bt301.2.2.2).bind fun bt319 => ((impl_CompareRatios.f k bt301.1 bt301.2.1 bt301.2.2.1 bt301.2.2.2).bind fun bt323 => ((spec_CompareRatios.f k bt301.1 bt301.2.1 bt301.2.2.1 bt301.2.2.2).bind fun bt325 => ((spec_DrawMakeRatio.f k l0).bind fun bt327 => ((impl_MakeRatio.f k bt327.1 bt327.2).bind fun bt329 => ((spec_MakeRatio.f k bt327.1 bt327.2).bind fun bt333 => (if bt307.2.2 = bt311.2.2 then (if (!(bt307.1 == bt311.1) || (!(bt307.2.1 == bt311.2.1))) = true then (laws_FnFractions.j0 k bt307.2.2 bt315.2.2 bt323.1 bt323.2 bt327.1 bt327.2 bt329.2.2 true bt301.1 bt301.2.1 bt301.2.2.1 bt301.2.2.2 bt307.1 bt307.2.1 bt315.1 bt315.2.1 bt329.1 bt329.2.1) else (if bt315.2.2 = bt319.2.2 then (if (!(bt315.1 == bt319.1) || (!(bt315.2.1 == bt319.2.1))) = true then (laws_FnFractions.j0 k bt307.2.2 bt315.2.2 bt323.1 bt323.2 bt327.1 bt327.2 bt329.2.2 true bt301.1 bt301.2.1 bt301.2.2.1 bt301.2.2.2 bt307.1 bt307.2.1 bt315.1 bt315.2.1 bt329.1 bt329.2.1) else (if bt323.2 = bt325.2 then (if bt323.1 = bt325.1 then (if bt329.2.2 = bt333.2.2 then (if (!(bt329.1 == bt333.1) || (!(bt329.2.1 == bt333.2.1))) = true then (laws_FnFractions.j0 k bt307.2.2 bt315.2.2 bt323.1 bt323.2 bt327.1 bt327.2 bt329.2.2 true bt301.1 bt301.2.1 bt301.2.2.1 bt301.2.2.2 bt307.1 bt307.2.1 bt315.1 bt315.2.1 bt329.1 bt329.2.1) else ((impl_IsRatio.f k bt301.1 bt301.2.1).bind fun t337 => ((spec_IsRatio.f k bt301.1 bt301.2.1).bind fun t338 => (laws_FnFractions.j0 k bt307.2.2 bt315.2.2 bt323.1 bt323.2 bt327.1 bt327.2 bt329.2.2 (t337 != t338) bt301.1 bt301.2.1 bt301.2.2.1 bt301.2.2.2 bt307.1 bt307.2.1 bt315.1 bt315.2.1 bt329.1 bt329.2.1)))) else (laws_FnFractions.j0 k bt307.2.2 bt315.2.2 bt323.1 bt323.2 bt327.1 bt327.2 bt329.2.2 true bt301.1 bt301.2.1 bt301.2.2.1 bt301.2.2.2 bt307.1 bt307.2.1 bt315.1 bt315.2.1 bt329.1 bt329.2.1)) else (laws_FnFractions.j0 k bt307.2.2 bt315.2.2 bt323.1 bt323.2 bt327.1 bt327.2 bt329.2.2 true bt301.1 bt301.2.1 bt301.2.2.1 bt301.2.2.2 bt307.1 bt307.2.1 bt315.1 bt315.2.1 bt329.1 bt329.2.1)) else (laws_FnFractions.j0 k bt307.2.2 bt315.2.2 bt323.1 bt323.2 bt327.1 bt327.2 bt329.2.2 true bt301.1 bt301.2.1 bt301.2.2.1 bt301.2.2.2 bt307.1 bt307.2.1 bt315.1 bt315.2.1 bt329.1 bt329.2.1))) else (laws_FnFractions.j0 k bt307.2.2 bt315.2.2 bt323.1 bt323.2 bt327.1 bt327.2 bt329.2.2 true bt301.1 bt301.2.1 bt301.2.2.1 bt301.2.2.2 bt307.1 bt307.2.1 bt315.1 bt315.2.1 bt329.1 bt329.2.1))) else (laws_FnFractions.j0 k bt307.2.2 bt315.2.2 bt323.1 bt323.2 bt327.1 bt327.2 bt329.2.2 true bt301.1 bt301.2.1 bt301.2.2.1 bt301.2.2.2 bt307.1 bt307.2.1 bt315.1 bt315.2.1 bt329.1 bt329.2.1)))))))))))))) = some r := h
 clear h
 replace H := Option.bind_eq_some_iff.mp H
 obtain ⟨t300, A20, H⟩ := H
 (try dsimp only at H)
 have A2 := Aside0.mk A20
 clear A20
 by_cases c3 : t300 = true
 ·
  subst c3
  have H1 : (some true) = some r := by rw [if_pos rfl] at H; exact H
  clear H
  have H := H1
  clear H1
  obtain rfl := Option.some.inj H
  simp only [Option.some.injEq, Prod.mk.injEq] at H
  obtain ⟨rfl⟩ := H
  go_enter Try.func3, Try.ntmps3
  go_wp2_with (first | ((with_reducible refine gate_callee (f := 4) rfl ?_); refine goesL_ (some 30) rfl rfl Try.func4 (by kernel_rfl) rfl #[.slice A0 l0.length c0] rfl (by (try simp only [List.map_toArray, List.map_cons, List.map_nil]); first | done | rfl | (go_simp; done) | simp) ?_; (with_reducible refine (laws_big.calls _ _ l0 true _ ?side1 ?side2 A2.out).mono ?_); (case side1 => repeat (first | exact HR0.out | (with_reducible refine Kd.C_alloc ?_ _) | (with_reducible refine Kd.C_drewN ?_ _) | (with_reducible refine Kd.C_drew ?_))); (case side2 => exact HC0.out); rintro e w' ⟨rfl, ⟨nd, rfl⟩⟩; refine ⟨_, rfl, ?_⟩))
  go_ret
  exact ⟨by first | rfl | (simp [errW_none, errW_some] <;> rfl) | (simp [*, errW_none, errW_some] <;> rfl), by repeat (first | (with_reducible first | exact HB.out | apply below_alloc | apply lN | apply lD) | exact HB.out)⟩
 ·
  replace c3 := Bool.eq_false_iff.mpr c3
  subst c3
  have H1 : ((spec_DrawAddRatios.f k l0).bind fun bt301 => ((impl_AddRatios.f k bt301.1 bt301.2.1 bt301.2.2.1 bt301.2.2.2).bind fun bt307 => ((spec_AddRatios.f k bt301.1 bt301.2.1 bt301.2.2.1 bt301.2.2.2).bind fun bt311 => ((impl_MultiplyRatios.f k bt301.1 bt301.2.1 bt301.2.2.1 bt301.2.2.2).bind fun bt315 => ((spec_MultiplyRatios.f k bt301.1 bt301.2.1 bt301.2.2.1 bt301.2.2.2).bind fun bt319 => ((impl_CompareRatios.f k bt301.1 bt301.2.1 bt301.2.2.1 bt301.2.2.2).bind fun bt323 => ((spec_CompareRatios.f k bt301.1 bt301.2.1 bt301.2.2.1 bt301.2.2.2).bind fun bt325 => ((spec_DrawMakeRatio.f k l0).bind fun bt327 => ((impl_MakeRatio.f k bt327.1 bt327.2).bind fun bt329 => ((spec_MakeRatio.f k bt327.1 bt327.2).bind fun bt333 => (if bt307.2.2 = bt311.2.2 then (if (!(bt307.1 == bt311.1) || (!(bt307.2.1 == bt311.2.1))) = true then (laws_FnFractions.j0 k bt307.2.2 bt315.2.2 bt323.1 bt323.2 bt327.1 bt327.2 bt329.2.2 true bt301.1 bt301.2.1 bt301.2.2.1 bt301.2.2.2 bt307.1 bt307.2.1 bt315.1 bt315.2.1 bt329.1 bt329.2.1) else (if bt315.2.2 = bt319.2.2 then (if (!(bt315.1 == bt319.1) || (!(bt315.2.1 == bt319.2.1))) = true then (laws_FnFractions.j0 k bt307.2.2 bt315.2.2 bt323.1 bt323.2 bt327.1 bt327.2 bt329.2.2 true bt301.1 bt301.2.1 bt301.2.2.1 bt301.2.2.2 bt307.1 bt307.2.1 bt315.1 bt315.2.1 bt329.1 bt329.2.1) else (if bt323.2 = bt325.2 then (if bt323.1 = bt325.1 then (if bt329.2.2 = bt333.2.2 then (if (!(bt329.1 == bt333.1) || (!(bt329.2.1 == bt333.2.1))) = true then (laws_FnFractions.j0 k bt307.2.2 bt315.2.2 bt323.1 bt323.2 bt327.1 bt327.2 bt329.2.2 true bt301.1 bt301.2.1 bt301.2.2.1 bt301.2.2.2 bt307.1 bt307.2.1 bt315.1 bt315.2.1 bt329.1 bt329.2.1) else ((impl_IsRatio.f k bt301.1 bt301.2.1).bind fun t337 => ((spec_IsRatio.f k bt301.1 bt301.2.1).bind fun t338 => (laws_FnFractions.j0 k bt307.2.2 bt315.2.2 bt323.1 bt323.2 bt327.1 bt327.2 bt329.2.2 (t337 != t338) bt301.1 bt301.2.1 bt301.2.2.1 bt301.2.2.2 bt307.1 bt307.2.1 bt315.1 bt315.2.1 bt329.1 bt329.2.1)))) else (laws_FnFractions.j0 k bt307.2.2 bt315.2.2 bt323.1 bt323.2 bt327.1 bt327.2 bt329.2.2 true bt301.1 bt301.2.1 bt301.2.2.1 bt301.2.2.2 bt307.1 bt307.2.1 bt315.1 bt315.2.1 bt329.1 bt329.2.1)) else (laws_FnFractions.j0 k bt307.2.2 bt315.2.2 bt323.1 bt323.2 bt327.1 bt327.2 bt329.2.2 true bt301.1 bt301.2.1 bt301.2.2.1 bt301.2.2.2 bt307.1 bt307.2.1 bt315.1 bt315.2.1 bt329.1 bt329.2.1)) else (laws_FnFractions.j0 k bt307.2.2 bt315.2.2 bt323.1 bt323.2 bt327.1 bt327.2 bt329.2.2 true bt301.1 bt301.2.1 bt301.2.2.1 bt301.2.2.2 bt307.1 bt307.2.1 bt315.1 bt315.2.1 bt329.1 bt329.2.1))) else (laws_FnFractions.j0 k bt307.2.2 bt315.2.2 bt323.1 bt323.2 bt327.1 bt327.2 bt329.2.2 true bt301.1 bt301.2.1 bt301.2.2.1 bt301.2.2.2 bt307.1 bt307.2.1 bt315.1 bt315.2.1 bt329.1 bt329.2.1))) else (laws_FnFractions.j0 k bt307.2.2 bt315.2.2 bt323.1 bt323.2 bt327.1 bt327.2 bt329.2.2 true bt301.1 bt301.2.1 bt301.2.2.1 bt301.2.2.2 bt307.1 bt307.2.1 bt315.1 bt315.2.1 bt329.1 bt329.2.1)))))))))))) = some r := by rw [if_neg (show ¬ (false = true) by decide)] at H; exact H
  clear H
  have H := H1
  clear H1
  replace H := Option.bind_eq_some_iff.mp H
  obtain ⟨⟨t301, t302, t303, t304⟩, A40, H⟩ := H
  (try dsimp only at H)
  have A4 := Aside0.mk A40
  clear A40
  replace H := Option.bind_eq_some_iff.mp H
  obtain ⟨⟨t307, t308, t309⟩, A50, H⟩ := H
  (try dsimp only at H)
  have A5 := Aside0.mk A50
  clear A50
  replace H := Option.bind_eq_some_iff.mp H
  obtain ⟨⟨t311, t312, t313⟩, A60, H⟩ := H
  (try dsimp only at H)
  have A6 := Aside0.mk A60
  clear A60
  replace H := Option.bind_eq_some_iff.mp H
  obtain ⟨⟨t315, t316, t317⟩, A70, H⟩ := H
  (try dsimp only at H)
  have A7 := Aside0.mk A70
  clear A70
  replace H := Option.bind_eq_some_iff.mp H
  obtain ⟨⟨t319, t320, t321⟩, A80, H⟩ := H
  (try dsimp only at H)
  have A8 := Aside0.mk A80
  clear A80
  replace H := Option.bind_eq_some_iff.mp H
  obtain ⟨⟨t323, t324⟩, A90, H⟩ := H
  (try dsimp only at H)
  have A9 := Aside0.mk A90
  clear A90
  replace H := Option.bind_eq_some_iff.mp H
  obtain ⟨⟨t325, t326⟩, A100, H⟩ := H
  (try dsimp only at H)
  have A10 := Aside0.mk A100
  clear A100
  replace H := Option.bind_eq_some_iff.mp H
  obtain ⟨⟨t327, t328⟩, A110, H⟩ := H
  (try dsimp only at H)
  have A11 := Aside0.mk A110
  clear A110
  replace H := Option.bind_eq_some_iff.mp H
  obtain ⟨⟨t329, t330, t331⟩, A120, H⟩ := H
  (try dsimp only at H)
  have A12 := Aside0.mk A120
  clear A120
  replace H := Option.bind_eq_some_iff.mp H
  obtain ⟨⟨t333, t334, t335⟩, A130, H⟩ := H
  (try dsimp only at H)
  have A13 := Aside0.mk A130
  clear A130
  have HC14 := Aside0.mk H
  clear H
  go_enter Try.func3, Try.ntmps3
  go_upto_region 13 with (first | ((with_reducible refine gate_callee (f := 4) rfl ?_); refine goesL_ (some 30) rfl rfl Try.func4 (by kernel_rfl) rfl #[.slice A0 l0.length c0] rfl (by (try simp only [List.map_toArray, List.map_cons, List.map_nil]); first | done | rfl | (go_simp; done) | simp) ?_; (with_reducible refine (laws_big.calls _ _ l0 false _ ?side1 ?side2 A2.out).mono ?_); (case side1 => repeat (first | exact HR0.out | (with_reducible refine Kd.C_alloc ?_ _) | (with_reducible refine Kd.C_drewN ?_ _) | (with_reducible refine Kd.C_drew ?_))); (case side2 => exact HC0.out); rintro e w' ⟨rfl, ⟨nd, rfl⟩⟩; refine ⟨_, rfl, ?_⟩) | ((with_reducible refine gate_callee (f := 5) rfl ?_); refine goesL_ (some 33) rfl rfl Try.func5 (by kernel_rfl) rfl #[.slice A0 l0.length c0] rfl (by (try simp only [List.map_toArray, List.map_cons, List.map_nil]); first | done | rfl | (go_simp; done) | simp) ?_; (with_reducible refine (spec_DrawAddRatios.calls k _ _ l0 t301 t302 t303 t304 _ ?side1 ?side2 A4.out).mono ?_); (case side1 => repeat (first | exact HR0.out | (with_reducible refine Kd.C_alloc ?_ _) | (with_reducible refine Kd.C_drewN ?_ _) | (with_reducible refine Kd.C_drew ?_))); (case side2 => exact HC0.out); rintro e w15 ⟨rfl, hb⟩; refine ⟨_, rfl, ?_⟩; have n0_ := Aside0.mk (below_step (by repeat (first | (with_reducible first | exact HB.out | apply below_alloc | apply lN | apply lD) | exact HB.out)) hb); clear HB; have HB := n0_; clear n0_; (try clear hb); (try clear hb2); (try clear hk); (try clear hi)) | ((with_reducible refine gate_dst (N := 3) rfl ?_); refine box_event ?hg (N := 3) ?hd (cs := #[.int .i64 0, .int .i64 0]) (t := 25) ?hr ?_; (case hd => rfl); (case hg => rfl); (case hr => first | (go_simp; done) | (go_simp; rfl)); intro gb305 hg w16 hbox hb; have n0_ := Aside0.mk (below_step (by repeat (first | (with_reducible first | exact HB.out | apply below_alloc | apply lN | apply lD) | exact HB.out)) hb); have n1_ := Aside0.mk (hbox); have n2_ := Aside0.mk ((by rw [hg]; exact (below_size (by repeat (first | (with_reducible first | exact HB.out | apply below_alloc | apply lN | apply lD) | exact HB.out))) : w.heap.size ≤ gb305)); have n3_ := Aside0.mk ((by rw [hg]; exact (below_size (by repeat (first | (with_reducible first | exact HB.out | apply below_alloc | apply lN | apply lD) | exact HB.out))) : w.heap.size ≤ gb305)); clear HB; have HB := n0_; have BK305 := n1_; have GW305 := n2_; have GE305 := n3_; clear n0_ n1_ n2_ n3_; clear hb hbox hg) | ((with_reducible refine gate_dst (N := 4) rfl ?_); refine box_event ?hg (N := 4) ?hd (cs := #[.int .i64 0, .int .i64 0]) (t := 25) ?hr ?_; (case hd => rfl); (case hg => rfl); (case hr => first | (go_simp; done) | (go_simp; rfl)); intro gb306 hg w17 hbox hb; have n0_ := Aside0.mk (blk_below (g := gb305) (o := .cells #[.int .i64 0, .int .i64 0] 25 (0, 0)) (by (with_reducible repeat first | apply bN | apply bD | apply bA); exact BK305.out) hb); have n1_ := Aside0.mk (below_step (by repeat (first | (with_reducible first | exact HB.out | apply below_alloc | apply lN | apply lD | refine below_set ?_ GE305.out) | exact HB.out)) hb); have n2_ := Aside0.mk (hbox); have n3_ := Aside0.mk ((by rw [hg]; exact (below_size (by repeat (first | (with_reducible first | exact HB.out | apply below_alloc | apply lN | apply lD | refine below_set ?_ GE305.out) | exact HB.out))) : w.heap.size ≤ gb306)); have n4_ := Aside0.mk ((by rw [hg]; exact (below_size (by repeat (first | (with_reducible first | exact HB.out | apply below_alloc | apply lN | apply lD | refine below_set ?_ GE305.out) | exact HB.out))) : w.heap.size ≤ gb306)); have n5_ := Aside0.mk ((by rw [hg]; exact Nat.ne_of_lt (blk_lt (g := gb305) (o := .cells #[.int .i64 0, .int .i64 0] 25 (0, 0)) (by (with_reducible repeat first | apply bN | apply bD | apply bA); exact BK305.out)) : gb305 ≠ gb306)); have n6_ := Aside0.mk ((by rw [hg]; exact Nat.ne_of_gt (blk_lt (g := gb305) (o := .cells #[.int .i64 0, .int .i64 0] 25 (0, 0)) (by (with_reducible repeat first | apply bN | apply bD | apply bA); exact BK305.out)) : gb306 ≠ gb305)); clear BK305; clear HB; have BK305 := n0_; have HB := n1_; have BK306 := n2_; have GW306 := n3_; have GE306 := n4_; have NB305_306 := n5_; have NB306_305 := n6_; clear n0_ n1_ n2_ n3_ n4_ n5_ n6_; clear hb hbox hg; have hnb18 := NB305_306.out; have hnc18 := NB306_305.out; have hcz19_0 : w17.cell? ⟨gb305, 0, none⟩ = some (.int .i64 0) := (blk_cell BK305.out 0).trans rfl; have hcz19_1 : w17.cell? ⟨gb305, 1, none⟩ = some (.int .i64 0) := (blk_cell BK305.out 1).trans rfl; have hfz19_0 := blk_frozen BK305.out 0; have hfz19_1 := blk_frozen BK305.out 1; have hcz20_0 : w17.cell? ⟨gb306, 0, none⟩ = some (.int .i64 0) := (blk_cell BK306.out 0).trans rfl; have hcz20_1 : w17.cell? ⟨gb306, 1, none⟩ = some (.int .i64 0) := (blk_cell BK306.out 1).trans rfl; have hfz20_0 := blk_frozen BK306.out 0; have hfz20_1 := blk_frozen BK306.out 1) | ((with_reducible refine gate_callee (f := 6) rfl ?_); refine goesL_ (some 39) rfl rfl Try.func6 (by kernel_rfl) rfl #[.agg #[.int .i64 t301, .int .i64 t302], .agg #[.int .i64 t303, .int .i64 t304]] rfl (by (try simp only [List.map_toArray, List.map_cons, List.map_nil]); first | done | rfl | (go_simp; done) | simp) ?_; (with_reducible refine (impl_AddRatios.calls k t301 t302 t303 t304 t307 t308 t309 _ A5.out).mono ?_); rintro e w21 ⟨rfl, hb⟩; refine ⟨_, rfl, ?_⟩; have n0_ := Aside0.mk (blk_below (g := gb305) (o := .cells #[.int .i64 t301, .int .i64 t302] 25 (0, 0)) (by (with_reducible repeat first | apply bN | apply bD | apply bA); refine blk_far ?_ NB305_306.out _; (with_reducible repeat first | apply bN | apply bD | apply bA); refine blk_far ?_ NB305_306.out _; (with_reducible repeat first | apply bN | apply bD | apply bA); refine blk_put (cs := #[.int .i64 t301, .int .i64 0]) ?_ 1 _ rfl; (with_reducible repeat first | apply bN | apply bD | apply bA); refine blk_put (cs := #[.int .i64 0, .int .i64 0]) ?_ 0 _ rfl; (with_reducible repeat first | apply bN | apply bD | apply bA); exact BK305.out) hb); have n1_ := Aside0.mk (blk_below (g := gb306) (o := .cells #[.int .i64 t303, .int .i64 t304] 25 (0, 0)) (by (with_reducible repeat first | apply bN | apply bD | apply bA); refine blk_put (cs := #[.int .i64 t303, .int .i64 0]) ?_ 1 _ rfl; (with_reducible repeat first | apply bN | apply bD | apply bA); refine blk_put (cs := #[.int .i64 0, .int .i64 0]) ?_ 0 _ rfl; (with_reducible repeat first | apply bN | apply bD | apply bA); refine blk_far ?_ NB306_305.out _; (with_reducible repeat first | apply bN | apply bD | apply bA); refine blk_far ?_ NB306_305.out _; (with_reducible repeat first | apply bN | apply bD | apply bA); exact BK306.out) hb); have n2_ := Aside0.mk (below_step (by repeat (first | (with_reducible first | exact HB.out | apply below_alloc | apply lN | apply lD | refine below_set ?_ GE305.out | refine below_set ?_ GE306.out) | exact HB.out)) hb); clear BK305; clear BK306; clear HB; have BK305 := n0_; have BK306 := n1_; have HB := n2_; clear n0_ n1_ n2_; (try clear hb); (try clear hb2); (try clear hk); (try clear hi)) | ((with_reducible refine gate_dst (N := 5) rfl ?_); refine box_event ?hg (N := 5) ?hd (cs := #[.int .i64 0, .int .i64 0]) (t := 25) ?hr ?_; (case hd => rfl); (case hg => rfl); (case hr => first | (go_simp; done) | (go_simp; rfl)); intro gb310 hg w22 hbox hb; have n0_ := Aside0.mk (blk_below (g := gb305) (o := .cells #[.int .i64 t301, .int .i64 t302] 25 (0, 0)) (by (with_reducible repeat first | apply bN | apply bD | apply bA); exact BK305.out) hb); have n1_ := Aside0.mk (blk_below (g := gb306) (o := .cells #[.int .i64 t303, .int .i64 t304] 25 (0, 0)) (by (with_reducible repeat first | apply bN | apply bD | apply bA); exact BK306.out) hb); have n2_ := Aside0.mk (below_step (by repeat (first | (with_reducible first | exact HB.out | apply below_alloc | apply lN | apply lD | refine below_set ?_ GE305.out | refine below_set ?_ GE306.out) | exact HB.out)) hb); have n3_ := Aside0.mk (hbox); have n4_ := Aside0.mk ((by rw [hg]; exact (below_size (by repeat (first | (with_reducible first | exact HB.out | apply below_alloc | apply lN | apply lD | refine below_set ?_ GE305.out | refine below_set ?_ GE306.out) | exact HB.out))) : w.heap.size ≤ gb310)); have n5_ := Aside0.mk ((by rw [hg]; exact (below_size (by repeat (first | (with_reducible first | exact HB.out | apply below_alloc | apply lN | apply lD | refine below_set ?_ GE305.out | refine below_set ?_ GE306.out) | exact HB.out))) : w.heap.size ≤ gb310)); have n6_ := Aside0.mk ((by rw [hg]; exact Nat.ne_of_lt (blk_lt (g := gb305) (o := .cells #[.int .i64 t301, .int .i64 t302] 25 (0, 0)) (by (with_reducible repeat first | apply bN | apply bD | apply bA); exact BK305.out)) : gb305 ≠ gb310)); have n7_ := Aside0.mk ((by rw [hg]; exact Nat.ne_of_gt (blk_lt (g := gb305) (o := .cells #[.int .i64 t301, .int .i64 t302] 25 (0, 0)) (by (with_reducible repeat first | apply bN | apply bD | apply bA); exact BK305.out)) : gb310 ≠ gb305)); have n8_ := Aside0.mk ((by rw [hg]; exact Nat.ne_of_lt (blk_lt (g := gb306) (o := .cells #[.int .i64 t303, .int .i64 t304] 25 (0, 0)) (by (with_reducible repeat first | apply bN | apply bD | apply bA); exact BK306.out)) : gb306 ≠ gb310)); have n9_ := Aside0.mk ((by rw [hg]; exact Nat.ne_of_gt (blk_lt (g := gb306) (o := .cells #[.int .i64 t303, .int .i64 t304] 25 (0, 0)) (by (with_reducible repeat first | apply bN | apply bD | apply bA); exact BK306.out)) : gb310 ≠ gb306)); clear BK305; clear BK306; clear HB; have BK305 := n0_; have BK306 := n1_; have HB := n2_; have BK310 := n3_; have GW310 := n4_; have GE310 := n5_; have NB305_310 := n6_; have NB310_305 := n7_; have NB306_310 := n8_; have NB310_306 := n9_; clear n0_ n1_ n2_ n3_ n4_ n5_ n6_ n7_ n8_ n9_; clear hb hbox hg; have hnb23 := NB310_305.out; have hnc23 := NB305_310.out; have hnb24 := NB310_306.out; have hnc24 := NB306_310.out; have hcz25_0 : w22.cell? ⟨gb310, 0, none⟩ = some (.int .i64 0) := (blk_cell BK310.out 0).trans rfl; have hcz25_1 : w22.cell? ⟨gb310, 1, none⟩ = some (.int .i64 0) := (blk_cell BK310.out 1).trans rfl; have hfz25_0 := blk_frozen BK310.out 0; have hfz25_1 := blk_frozen BK310.out 1; have hcz26_0 : w22.cell? ⟨gb305, 0, none⟩ = some (.int .i64 t301) := (blk_cell BK305.out 0).trans rfl; have hcz26_1 : w22.cell? ⟨gb305, 1, none⟩ = some (.int .i64 t302) := (blk_cell BK305.out 1).trans rfl; have hfz26_0 := blk_frozen BK305.out 0; have hfz26_1 := blk_frozen BK305.out 1; have hcz27_0 : w22.cell? ⟨gb306, 0, none⟩ = some (.int .i64 t303) := (blk_cell BK306.out 0).trans rfl; have hcz27_1 : w22.cell? ⟨gb306, 1, none⟩ = some (.int .i64 t304) := (blk_cell BK306.out 1).trans rfl; have hfz27_0 := blk_frozen BK306.out 0; have hfz27_1 := blk_frozen BK306.out 1) | ((with_reducible refine gate_callee (f := 7) rfl ?_); refine goesL_ (some 45) rfl rfl Try.func7 (by kernel_rfl) rfl #[.agg #[.int .i64 t301, .int .i64 t302], .agg #[.int .i64 t303, .int .i64 t304]] rfl (by (try simp only [List.map_toArray, List.map_cons, List.map_nil]); first | done | rfl | (go_simp; done) | simp) ?_; (with_reducible refine (spec_AddRatios.calls k t301 t302 t303 t304 t311 t312 t313 _ A6.out).mono ?_); rintro e w28 ⟨rfl, hb⟩; refine ⟨_, rfl, ?_⟩; have n0_ := Aside0.mk (blk_below (g := gb305) (o := .cells #[.int .i64 t301, .int .i64 t302] 25 (0, 0)) (by (with_reducible repeat first | apply bN | apply bD | apply bA); refine blk_far ?_ NB305_310.out _; (with_reducible repeat first | apply bN | apply bD | apply bA); refine blk_far ?_ NB305_310.out _; (with_reducible repeat first | apply bN | apply bD | apply bA); exact BK305.out) hb); have n1_ := Aside0.mk (blk_below (g := gb306) (o := .cells #[.int .i64 t303, .int .i64 t304] 25 (0, 0)) (by (with_reducible repeat first | apply bN | apply bD | apply bA); refine blk_far ?_ NB306_310.out _; (with_reducible repeat first | apply bN | apply bD | apply bA); refine blk_far ?_ NB306_310.out _; (with_reducible repeat first | apply bN | apply bD | apply bA); exact BK306.out) hb); have n2_ := Aside0.mk (blk_below (g := gb310) (o := .cells #[.int .i64 t307, .int .i64 t308] 25 (0, 0)) (by (with_reducible repeat first | apply bN | apply bD | apply bA); refine blk_put (cs := #[.int .i64 t307, .int .i64 0]) ?_ 1 _ rfl; (with_reducible repeat first | apply bN | apply bD | apply bA); refine blk_put (cs := #[.int .i64 0, .int .i64 0]) ?_ 0 _ rfl; (with_reducible repeat first | apply bN | apply bD | apply bA); exact BK310.out) hb); have n3_ := Aside0.mk (below_step (by repeat (first | (with_reducible first | exact HB.out | apply below_alloc | apply lN | apply lD | refine below_set ?_ GE305.out | refine below_set ?_ GE306.out | refine below_set ?_ GE310.out) | exact HB.out)) hb); clear BK305; clear BK306; clear BK310; clear HB; have BK305 := n0_; have BK306 := n1_; have BK310 := n2_; have HB := n3_; clear n0_ n1_ n2_ n3_; (try clear hb); (try clear hb2); (try clear hk); (try clear hi)) | ((with_reducible refine gate_dst (N := 7) rfl ?_); refine box_event ?hg (N := 7) ?hd (cs := #[.int .i64 0, .int .i64 0]) (t := 25) ?hr ?_; (case hd => rfl); (case hg => rfl); (case hr => first | (go_simp; done) | (go_simp; rfl)); intro gb314 hg w29 hbox hb; have n0_ := Aside0.mk (blk_below (g := gb305) (o := .cells #[.int .i64 t301, .int .i64 t302] 25 (0, 0)) (by (with_reducible repeat first | apply bN | apply bD | apply bA); exact BK305.out) hb); have n1_ := Aside0.mk (blk_below (g := gb306) (o := .cells #[.int .i64 t303, .int .i64 t304] 25 (0, 0)) (by (with_reducible repeat first | apply bN | apply bD | apply bA); exact BK306.out) hb); have n2_ := Aside0.mk (blk_below (g := gb310) (o := .cells #[.int .i64 t307, .int .i64 t308] 25 (0, 0)) (by (with_reducible repeat first | apply bN | apply bD | apply bA); exact BK310.out) hb); have n3_ := Aside0.mk (below_step (by repeat (first | (with_reducible first | exact HB.out | apply below_alloc | apply lN | apply lD | refine below_set ?_ GE305.out | refine below_set ?_ GE306.out | refine below_set ?_ GE310.out) | exact HB.out)) hb); have n4_ := Aside0.mk (hbox); have n5_ := Aside0.mk ((by rw [hg]; exact (below_size (by repeat (first | (with_reducible first | exact HB.out | apply below_alloc | apply lN | apply lD | refine below_set ?_ GE305.out | refine below_set ?_ GE306.out | refine below_set ?_ GE310.out) | exact HB.out))) : w.heap.size ≤ gb314)); have n6_ := Aside0.mk ((by rw [hg]; exact (below_size (by repeat (first | (with_reducible first | exact HB.out | apply below_alloc | apply lN | apply lD | refine below_set ?_ GE305.out | refine below_set ?_ GE306.out | refine below_set ?_ GE310.out) | exact HB.out))) : w.heap.size ≤ gb314)); have n7_ := Aside0.mk ((by rw [hg]; exact Nat.ne_of_lt (blk_lt (g := gb305) (o := .cells #[.int .i64 t301, .int .i64 t302] 25 (0, 0)) (by (with_reducible repeat first | apply bN | apply bD | apply bA); exact BK305.out)) : gb305 ≠ gb314)); have n8_ := Aside0.mk ((by rw [hg]; exact Nat.ne_of_gt (blk_lt (g := gb305) (o := .cells #[.int .i64 t301, .int .i64 t302] 25 (0, 0)) (by (with_reducible repeat first | apply bN | apply bD | apply bA); exact BK305.out)) : gb314 ≠ gb305)); have n9_ := Aside0.mk ((by rw [hg]; exact Nat.ne_of_lt (blk_lt (g := gb306) (o := .cells #[.int .i64 t303, .int .i64 t304] 25 (0, 0)) (by (with_reducible repeat first | apply bN | apply bD | apply bA); exact BK306.out)) : gb306 ≠ gb314)); have n10_ := Aside0.mk ((by rw [hg]; exact Nat.ne_of_gt (blk_lt (g := gb306) (o := .cells #[.int .i64 t303, .int .i64 t304] 25 (0, 0)) (by (with_reducible repeat first | apply bN | apply bD | apply bA); exact BK306.out)) : gb314 ≠ gb306)); have n11_ := Aside0.mk ((by rw [hg]; exact Nat.ne_of_lt (blk_lt (g := gb310) (o := .cells #[.int .i64 t307, .int .i64 t308] 25 (0, 0)) (by (with_reducible repeat first | apply bN | apply bD | apply bA); exact BK310.out)) : gb310 ≠ gb314)); have n12_ := Aside0.mk ((by rw [hg]; exact Nat.ne_of_gt (blk_lt (g := gb310) (o := .cells #[.int .i64 t307, .int .i64 t308] 25 (0, 0)) (by (with_reducible repeat first | apply bN | apply bD | apply bA); exact BK310.out)) : gb314 ≠ gb310)); clear BK305; clear BK306; clear BK310; clear HB; have BK305 := n0_; have BK306 := n1_; have BK310 := n2_; have HB := n3_; have BK314 := n4_; have GW314 := n5_; have GE314 := n6_; have NB305_314 := n7_; have NB314_305 := n8_; have NB306_314 := n9_; have NB314_306 := n10_; have NB310_314 := n11_; have NB314_310 := n12_; clear n0_ n1_ n2_ n3_ n4_ n5_ n6_ n7_ n8_ n9_ n10_ n11_ n12_; clear hb hbox hg; have hnb30 := NB314_305.out; have hnc30 := NB305_314.out; have hnb31 := NB314_306.out; have hnc31 := NB306_314.out; have hnb32 := NB314_310.out; have hnc32 := NB310_314.out; have hcz33_0 : w29.cell? ⟨gb314, 0, none⟩ = some (.int .i64 0) := (blk_cell BK314.out 0).trans rfl; have hcz33_1 : w29.cell? ⟨gb314, 1, none⟩ = some (.int .i64 0) := (blk_cell BK314.out 1).trans rfl; have hfz33_0 := blk_frozen BK314.out 0; have hfz33_1 := blk_frozen BK314.out 1; have hcz34_0 : w29.cell? ⟨gb305, 0, none⟩ = some (.int .i64 t301) := (blk_cell BK305.out 0).trans rfl; have hcz34_1 : w29.cell? ⟨gb305, 1, none⟩ = some (.int .i64 t302) := (blk_cell BK305.out 1).trans rfl; have hfz34_0 := blk_frozen BK305.out 0; have hfz34_1 := blk_frozen BK305.out 1; have hcz35_0 : w29.cell? ⟨gb306, 0, none⟩ = some (.int .i64 t303) := (blk_cell BK306.out 0).trans rfl; have hcz35_1 : w29.cell? ⟨gb306, 1, none⟩ = some (.int .i64 t304) := (blk_cell BK306.out 1).trans rfl; have hfz35_0 := blk_frozen BK306.out 0; have hfz35_1 := blk_frozen BK306.out 1) | ((with_reducible refine gate_callee (f := 8) rfl ?_); refine goesL_ (some 51) rfl rfl Try.func8 (by kernel_rfl) rfl #[.agg #[.int .i64 t301, .int .i64 t302], .agg #[.int .i64 t303, .int .i64 t304]] rfl (by (try simp only [List.map_toArray, List.map_cons, List.map_nil]); first | done | rfl | (go_simp; done) | simp) ?_; (with_reducible refine (impl_MultiplyRatios.calls k t301 t302 t303 t304 t315 t316 t317 _ A7.out).mono ?_); rintro e w36 ⟨rfl, hb⟩; refine ⟨_, rfl, ?_⟩; have n0_ := Aside0.mk (blk_below (g := gb305) (o := .cells #[.int .i64 t301, .int .i64 t302] 25 (0, 0)) (by (with_reducible repeat first | apply bN | apply bD | apply bA); refine blk_far ?_ NB305_314.out _; (with_reducible repeat first | apply bN | apply bD | apply bA); refine blk_far ?_ NB305_314.out _; (with_reducible repeat first | apply bN | apply bD | apply bA); exact BK305.out) hb); have n1_ := Aside0.mk (blk_below (g := gb306) (o := .cells #[.int .i64 t303, .int .i64 t304] 25 (0, 0)) (by (with_reducible repeat first | apply bN | apply bD | apply bA); refine blk_far ?_ NB306_314.out _; (with_reducible repeat first | apply bN | apply bD | apply bA); refine blk_far ?_ NB306_314.out _; (with_reducible repeat first | apply bN | apply bD | apply bA); exact BK306.out) hb); have n2_ := Aside0.mk (blk_below (g := gb310) (o := .cells #[.int .i64 t307, .int .i64 t308] 25 (0, 0)) (by (with_reducible repeat first | apply bN | apply bD | apply bA); refine blk_far ?_ NB310_314.out _; (with_reducible repeat first | apply bN | apply bD | apply bA); refine blk_far ?_ NB310_314.out _; (with_reducible repeat first | apply bN | apply bD | apply bA); exact BK310.out) hb); have n3_ := Aside0.mk (blk_below (g := gb314) (o := .cells #[.int .i64 t311, .int .i64 t312] 25 (0, 0)) (by (with_reducible repeat first | apply bN | apply bD | apply bA); refine blk_put (cs := #[.int .i64 t311, .int .i64 0]) ?_ 1 _ rfl; (with_reducible repeat first | apply bN | apply bD | apply bA); refine blk_put (cs := #[.int .i64 0, .int .i64 0]) ?_ 0 _ rfl; (with_reducible repeat first | apply bN | apply bD | apply bA); exact BK314.out) hb); have n4_ := Aside0.mk (below_step (by repeat (first | (with_reducible first | exact HB.out | apply below_alloc | apply lN | apply lD | refine below_set ?_ GE305.out | refine below_set ?_ GE306.out | refine below_set ?_ GE310.out | refine below_set ?_ GE314.out) | exact HB.out)) hb); clear BK305; clear BK306; clear BK310; clear BK314; clear HB; have BK305 := n0_; have BK306 := n1_; have BK310 := n2_; have BK314 := n3_; have HB := n4_; clear n0_ n1_ n2_ n3_ n4_; (try clear hb); (try clear hb2); (try clear hk); (try clear hi)) | ((with_reducible refine gate_dst (N := 9) rfl ?_); refine box_event ?hg (N := 9) ?hd (cs := #[.int .i64 0, .int .i64 0]) (t := 25) ?hr ?_; (case hd => rfl); (case hg => rfl); (case hr => first | (go_simp; done) | (go_simp; rfl)); intro gb318 hg w37 hbox hb; have n0_ := Aside0.mk (blk_below (g := gb305) (o := .cells #[.int .i64 t301, .int .i64 t302] 25 (0, 0)) (by (with_reducible repeat first | apply bN | apply bD | apply bA); exact BK305.out) hb); have n1_ := Aside0.mk (blk_below (g := gb306) (o := .cells #[.int .i64 t303, .int .i64 t304] 25 (0, 0)) (by (with_reducible repeat first | apply bN | apply bD | apply bA); exact BK306.out) hb); have n2_ := Aside0.mk (blk_below (g := gb310) (o := .cells #[.int .i64 t307, .int .i64 t308] 25 (0, 0)) (by (with_reducible repeat first | apply bN | apply bD | apply bA); exact BK310.out) hb); have n3_ := Aside0.mk (blk_below (g := gb314) (o := .cells #[.int .i64 t311, .int .i64 t312] 25 (0, 0)) (by (with_reducible repeat first | apply bN | apply bD | apply bA); exact BK314.out) hb); have n4_ := Aside0.mk (below_step (by repeat (first | (with_reducible first | exact HB.out | apply below_alloc | apply lN | apply lD | refine below_set ?_ GE305.out | refine below_set ?_ GE306.out | refine below_set ?_ GE310.out | refine below_set ?_ GE314.out) | exact HB.out)) hb); have n5_ := Aside0.mk (hbox); have n6_ := Aside0.mk ((by rw [hg]; exact (below_size (by repeat (first | (with_reducible first | exact HB.out | apply below_alloc | apply lN | apply lD | refine below_set ?_ GE305.out | refine below_set ?_ GE306.out | refine below_set ?_ GE310.out | refine below_set ?_ GE314.out) | exact HB.out))) : w.heap.size ≤ gb318)); have n7_ := Aside0.mk ((by rw [hg]; exact (below_size (by repeat (first | (with_reducible first | exact HB.out | apply below_alloc | apply lN | apply lD | refine below_set ?_ GE305.out | refine below_set ?_ GE306.out | refine below_set ?_ GE310.out | refine below_set ?_ GE314.out) | exact HB.out))) : w.heap.size ≤ gb318)); have n8_ := Aside0.mk ((by rw [hg]; exact Nat.ne_of_lt (blk_lt (g := gb305) (o := .cells #[.int .i64 t301, .int .i64 t302] 25 (0, 0)) (by (with_reducible repeat first | apply bN | apply bD | apply bA); exact BK305.out)) : gb305 ≠ gb318)); have n9_ := Aside0.mk ((by rw [hg]; exact Nat.ne_of_gt (blk_lt (g := gb305) (o := .cells #[.int .i64 t301, .int .i64 t302] 25 (0, 0)) (by (with_reducible repeat first | apply bN | apply bD | apply bA); exact BK305.out)) : gb318 ≠ gb305)); have n10_ := Aside0.mk ((by rw [hg]; exact Nat.ne_of_lt (blk_lt (g := gb306) (o := .cells #[.int .i64 t303, .int .i64 t304] 25 (0, 0)) (by (with_reducible repeat first | apply bN | apply bD | apply bA); exact BK306.out)) : gb306 ≠ gb318)); have n11_ := Aside0.mk ((by rw [hg]; exact Nat.ne_of_gt (blk_lt (g := gb306) (o := .cells #[.int .i64 t303, .int .i64 t304] 25 (0, 0)) (by (with_reducible repeat first | apply bN | apply bD | apply bA); exact BK306.out)) : gb318 ≠ gb306)); have n12_ := Aside0.mk ((by rw [hg]; exact Nat.ne_of_lt (blk_lt (g := gb310) (o := .cells #[.int .i64 t307, .int .i64 t308] 25 (0, 0)) (by (with_reducible repeat first | apply bN | apply bD | apply bA); exact BK310.out)) : gb310 ≠ gb318)); have n13_ := Aside0.mk ((by rw [hg]; exact Nat.ne_of_gt (blk_lt (g := gb310) (o := .cells #[.int .i64 t307, .int .i64 t308] 25 (0, 0)) (by (with_reducible repeat first | apply bN | apply bD | apply bA); exact BK310.out)) : gb318 ≠ gb310)); have n14_ := Aside0.mk ((by rw [hg]; exact Nat.ne_of_lt (blk_lt (g := gb314) (o := .cells #[.int .i64 t311, .int .i64 t312] 25 (0, 0)) (by (with_reducible repeat first | apply bN | apply bD | apply bA); exact BK314.out)) : gb314 ≠ gb318)); have n15_ := Aside0.mk ((by rw [hg]; exact Nat.ne_of_gt (blk_lt (g := gb314) (o := .cells #[.int .i64 t311, .int .i64 t312] 25 (0, 0)) (by (with_reducible repeat first | apply bN | apply bD | apply bA); exact BK314.out)) : gb318 ≠ gb314)); clear BK305; clear BK306; clear BK310; clear BK314; clear HB; have BK305 := n0_; have BK306 := n1_; have BK310 := n2_; have BK314 := n3_; have HB := n4_; have BK318 := n5_; have GW318 := n6_; have GE318 := n7_; have NB305_318 := n8_; have NB318_305 := n9_; have NB306_318 := n10_; have NB318_306 := n11_; have NB310_318 := n12_; have NB318_310 := n13_; have NB314_318 := n14_; have NB318_314 := n15_; clear n0_ n1_ n2_ n3_ n4_ n5_ n6_ n7_ n8_ n9_ n10_ n11_ n12_ n13_ n14_ n15_; clear hb hbox hg; have hnb38 := NB318_305.out; have hnc38 := NB305_318.out; have hnb39 := NB318_306.out; have hnc39 := NB306_318.out; have hnb40 := NB318_310.out; have hnc40 := NB310_318.out; have hnb41 := NB318_314.out; have hnc41 := NB314_318.out; have hcz42_0 : w37.cell? ⟨gb318, 0, none⟩ = some (.int .i64 0) := (blk_cell BK318.out 0).trans rfl; have hcz42_1 : w37.cell? ⟨gb318, 1, none⟩ = some (.int .i64 0) := (blk_cell BK318.out 1).trans rfl; have hfz42_0 := blk_frozen BK318.out 0; have hfz42_1 := blk_frozen BK318.out 1; have hcz43_0 : w37.cell? ⟨gb305, 0, none⟩ = some (.int .i64 t301) := (blk_cell BK305.out 0).trans rfl; have hcz43_1 : w37.cell? ⟨gb305, 1, none⟩ = some (.int .i64 t302) := (blk_cell BK305.out 1).trans rfl; have hfz43_0 := blk_frozen BK305.out 0; have hfz43_1 := blk_frozen BK305.out 1; have hcz44_0 : w37.cell? ⟨gb306, 0, none⟩ = some (.int .i64 t303) := (blk_cell BK306.out 0).trans rfl; have hcz44_1 : w37.cell? ⟨gb306, 1, none⟩ = some (.int .i64 t304) := (blk_cell BK306.out 1).trans rfl; have hfz44_0 := blk_frozen BK306.out 0; have hfz44_1 := blk_frozen BK306.out 1) | ((with_reducible refine gate_callee (f := 9) rfl ?_); refine goesL_ (some 57) rfl rfl Try.func9 (by kernel_rfl) rfl #[.agg #[.int .i64 t301, .int .i64 t302], .agg #[.int .i64 t303, .int .i64 t304]] rfl (by (try simp only [List.map_toArray, List.map_cons, List.map_nil]); first | done | rfl | (go_simp; done) | simp) ?_; (with_reducible refine (spec_MultiplyRatios.calls k t301 t302 t303 t304 t319 t320 t321 _ A8.out).mono ?_); rintro e w45 ⟨rfl, hb⟩; refine ⟨_, rfl, ?_⟩; have n0_ := Aside0.mk (blk_below (g := gb305) (o := .cells #[.int .i64 t301, .int .i64 t302] 25 (0, 0)) (by (with_reducible repeat first | apply bN | apply bD | apply bA); refine blk_far ?_ NB305_318.out _; (with_reducible repeat first | apply bN | apply bD | apply bA); refine blk_far ?_ NB305_318.out _; (with_reducible repeat first | apply bN | apply bD | apply bA); exact BK305.out) hb); have n1_ := Aside0.mk (blk_below (g := gb306) (o := .cells #[.int .i64 t303, .int .i64 t304] 25 (0, 0)) (by (with_reducible repeat first | apply bN | apply bD | apply bA); refine blk_far ?_ NB306_318.out _; (with_reducible repeat first | apply bN | apply bD | apply bA); refine blk_far ?_ NB306_318.out _; (with_reducible repeat first | apply bN | apply bD | apply bA); exact BK306.out) hb); have n2_ := Aside0.mk (blk_below (g := gb310) (o := .cells #[.int .i64 t307, .int .i64 t308] 25 (0, 0)) (by (with_reducible repeat first | apply bN | apply bD | apply bA); refine blk_far ?_ NB310_318.out _; (with_reducible repeat first | apply bN | apply bD | apply bA); refine blk_far ?_ NB310_318.out _; (with_reducible repeat first | apply bN | apply bD | apply bA); exact BK310.out) hb); have n3_ := Aside0.mk (blk_below (g := gb314) (o := .cells #[.int .i64 t311, .int .i64 t312] 25 (0, 0)) (by (with_reducible repeat first | apply bN | apply bD | apply bA); refine blk_far ?_ NB314_318.out _; (with_reducible repeat first | apply bN | apply bD | apply bA); refine blk_far ?_ NB314_318.out _; (with_reducible repeat first | apply bN | apply bD | apply bA); exact BK314.out) hb); have n4_ := Aside0.mk (blk_below (g := gb318) (o := .cells #[.int .i64 t315, .int .i64 t316] 25 (0, 0)) (by (with_reducible repeat first | apply bN | apply bD | apply bA); refine blk_put (cs := #[.int .i64 t315, .int .i64 0]) ?_ 1 _ rfl; (with_reducible repeat first | apply bN | apply bD | apply bA); refine blk_put (cs := #[.int .i64 0, .int .i64 0]) ?_ 0 _ rfl; (with_reducible repeat first | apply bN | apply bD | apply bA); exact BK318.out) hb); have n5_ := Aside0.mk (below_step (by repeat (first | (with_reducible first | exact HB.out | apply below_alloc | apply lN | apply lD | refine below_set ?_ GE305.out | refine below_set ?_ GE306.out | refine below_set ?_ GE310.out | refine below_set ?_ GE314.out | refine below_set ?_ GE318.out) | exact HB.out)) hb); clear BK305; clear BK306; clear BK310; clear BK314; clear BK318; clear HB; have BK305 := n0_; have BK306 := n1_; have BK310 := n2_; have BK314 := n3_; have BK318 := n4_; have HB := n5_; clear n0_ n1_ n2_ n3_ n4_ n5_; (try clear hb); (try clear hb2); (try clear hk); (try clear hi)) | ((with_reducible refine gate_dst (N := 11) rfl ?_); refine box_event ?hg (N := 11) ?hd (cs := #[.int .i64 0, .int .i64 0]) (t := 25) ?hr ?_; (case hd => rfl); (case hg => rfl); (case hr => first | (go_simp; done) | (go_simp; rfl)); intro gb322 hg w46 hbox hb; have n0_ := Aside0.mk (blk_below (g := gb305) (o := .cells #[.int .i64 t301, .int .i64 t302] 25 (0, 0)) (by (with_reducible repeat first | apply bN | apply bD | apply bA); exact BK305.out) hb); have n1_ := Aside0.mk (blk_below (g := gb306) (o := .cells #[.int .i64 t303, .int .i64 t304] 25 (0, 0)) (by (with_reducible repeat first | apply bN | apply bD | apply bA); exact BK306.out) hb); have n2_ := Aside0.mk (blk_below (g := gb310) (o := .cells #[.int .i64 t307, .int .i64 t308] 25 (0, 0)) (by (with_reducible repeat first | apply bN | apply bD | apply bA); exact BK310.out) hb); have n3_ := Aside0.mk (blk_below (g := gb314) (o := .cells #[.int .i64 t311, .int .i64 t312] 25 (0, 0)) (by (with_reducible repeat first | apply bN | apply bD | apply bA); exact BK314.out) hb); have n4_ := Aside0.mk (blk_below (g := gb318) (o := .cells #[.int .i64 t315, .int .i64 t316] 25 (0, 0)) (by (with_reducible repeat first | apply bN | apply bD | apply bA); exact BK318.out) hb); have n5_ := Aside0.mk (below_step (by repeat (first | (with_reducible first | exact HB.out | apply below_alloc | apply lN | apply lD | refine below_set ?_ GE305.out | refine below_set ?_ GE306.out | refine below_set ?_ GE310.out | refine below_set ?_ GE314.out | refine below_set ?_ GE318.out) | exact HB.out)) hb); have n6_ := Aside0.mk (hbox); have n7_ := Aside0.mk ((by rw [hg]; exact (below_size (by repeat (first | (with_reducible first | exact HB.out | apply below_alloc | apply lN | apply lD | refine below_set ?_ GE305.out | refine below_set ?_ GE306.out | refine below_set ?_ GE310.out | refine below_set ?_ GE314.out | refine below_set ?_ GE318.out) | exact HB.out))) : w.heap.size ≤ gb322)); have n8_ := Aside0.mk ((by rw [hg]; exact (below_size (by repeat (first | (with_reducible first | exact HB.out | apply below_alloc | apply lN | apply lD | refine below_set ?_ GE305.out | refine below_set ?_ GE306.out | refine below_set ?_ GE310.out | refine below_set ?_ GE314.out | refine below_set ?_ GE318.out) | exact HB.out))) : w.heap.size ≤ gb322)); have n9_ := Aside0.mk ((by rw [hg]; exact Nat.ne_of_lt (blk_lt (g := gb305) (o := .cells #[.int .i64 t301, .int .i64 t302] 25 (0, 0)) (by (with_reducible repeat first | apply bN | apply bD | apply bA); exact BK305.out)) : gb305 ≠ gb322)); have n10_ := Aside0.mk ((by rw [hg]; exact Nat.ne_of_gt (blk_lt (g := gb305) (o := .cells #[.int .i64 t301, .int .i64 t302] 25 (0, 0)) (by (with_reducible repeat first | apply bN | apply bD | apply bA); exact BK305.out)) : gb322 ≠ gb305)); have n11_ := Aside0.mk ((by rw [hg]; exact Nat.ne_of_lt (blk_lt (g := gb306) (o := .cells #[.int .i64 t303, .int .i64 t304] 25 (0, 0)) (by (with_reducible repeat first | apply bN | apply bD | apply bA); exact BK306.out)) : gb306 ≠ gb322)); have n12_ := Aside0.mk ((by rw [hg]; exact Nat.ne_of_gt (blk_lt (g := gb306) (o := .cells #[.int .i64 t303, .int .i64 t304] 25 (0, 0)) (by (with_reducible repeat first | apply bN | apply bD | apply bA); exact BK306.out)) : gb322 ≠ gb306)); have n13_ := Aside0.mk ((by rw [hg]; exact Nat.ne_of_lt (blk_lt (g := gb310) (o := .cells #[.int .i64 t307, .int .i64 t308] 25 (0, 0)) (by (with_reducible repeat first | apply bN | apply bD | apply bA); exact BK310.out)) : gb310 ≠ gb322)); have n14_ := Aside0.mk ((by rw [hg]; exact Nat.ne_of_gt (blk_lt (g := gb310) (o := .cells #[.int .i64 t307, .int .i64 t308] 25 (0, 0)) (by (with_reducible repeat first | apply bN | apply bD | apply bA); exact BK310.out)) : gb322 ≠ gb310)); have n15_ := Aside0.mk ((by rw [hg]; exact Nat.ne_of_lt (blk_lt (g := gb314) (o := .cells #[.int .i64 t311, .int .i64 t312] 25 (0, 0)) (by (with_reducible repeat first | apply bN | apply bD | apply bA); exact BK314.out)) : gb314 ≠ gb322)); have n16_ := Aside0.mk ((by rw [hg]; exact Nat.ne_of_gt (blk_lt (g := gb314) (o := .cells #[.int .i64 t311, .int .i64 t312] 25 (0, 0)) (by (with_reducible repeat first | apply bN | apply bD | apply bA); exact BK314.out)) : gb322 ≠ gb314)); have n17_ := Aside0.mk ((by rw [hg]; exact Nat.ne_of_lt (blk_lt (g := gb318) (o := .cells #[.int .i64 t315, .int .i64 t316] 25 (0, 0)) (by (with_reducible repeat first | apply bN | apply bD | apply bA); exact BK318.out)) : gb318 ≠ gb322)); have n18_ := Aside0.mk ((by rw [hg]; exact Nat.ne_of_gt (blk_lt (g := gb318) (o := .cells #[.int .i64 t315, .int .i64 t316] 25 (0, 0)) (by (with_reducible repeat first | apply bN | apply bD | apply bA); exact BK318.out)) : gb322 ≠ gb318)); clear BK305; clear BK306; clear BK310; clear BK314; clear BK318; clear HB; have BK305 := n0_; have BK306 := n1_; have BK310 := n2_; have BK314 := n3_; have BK318 := n4_; have HB := n5_; have BK322 := n6_; have GW322 := n7_; have GE322 := n8_; have NB305_322 := n9_; have NB322_305 := n10_; have NB306_322 := n11_; have NB322_306 := n12_; have NB310_322 := n13_; have NB322_310 := n14_; have NB314_322 := n15_; have NB322_314 := n16_; have NB318_322 := n17_; have NB322_318 := n18_; clear n0_ n1_ n2_ n3_ n4_ n5_ n6_ n7_ n8_ n9_ n10_ n11_ n12_ n13_ n14_ n15_ n16_ n17_ n18_; clear hb hbox hg; have hnb47 := NB322_305.out; have hnc47 := NB305_322.out; have hnb48 := NB322_306.out; have hnc48 := NB306_322.out; have hnb49 := NB322_310.out; have hnc49 := NB310_322.out; have hnb50 := NB322_314.out; have hnc50 := NB314_322.out; have hnb51 := NB322_318.out; have hnc51 := NB318_322.out; have hcz52_0 : w46.cell? ⟨gb322, 0, none⟩ = some (.int .i64 0) := (blk_cell BK322.out 0).trans rfl; have hcz52_1 : w46.cell? ⟨gb322, 1, none⟩ = some (.int .i64 0) := (blk_cell BK322.out 1).trans rfl; have hfz52_0 := blk_frozen BK322.out 0; have hfz52_1 := blk_frozen BK322.out 1; have hcz53_0 : w46.cell? ⟨gb305, 0, none⟩ = some (.int .i64 t301) := (blk_cell BK305.out 0).trans rfl; have hcz53_1 : w46.cell? ⟨gb305, 1, none⟩ = some (.int .i64 t302) := (blk_cell BK305.out 1).trans rfl; have hfz53_0 := blk_frozen BK305.out 0; have hfz53_1 := blk_frozen BK305.out 1; have hcz54_0 : w46.cell? ⟨gb306, 0, none⟩ = some (.int .i64 t303) := (blk_cell BK306.out 0).trans rfl; have hcz54_1 : w46.cell? ⟨gb306, 1, none⟩ = some (.int .i64 t304) := (blk_cell BK306.out 1).trans rfl; have hfz54_0 := blk_frozen BK306.out 0; have hfz54_1 := blk_frozen BK306.out 1) | ((with_reducible refine gate_callee (f := 10) rfl ?_); refine goesL_ (some 63) rfl rfl Try.func10 (by kernel_rfl) rfl #[.agg #[.int .i64 t301, .int .i64 t302], .agg #[.int .i64 t303, .int .i64 t304]] rfl (by (try simp only [List.map_toArray, List.map_cons, List.map_nil]); first | done | rfl | (go_simp; done) | simp) ?_; (with_reducible refine (impl_CompareRatios.calls k t301 t302 t303 t304 t323 t324 _ A9.out).mono ?_); rintro e w55 ⟨rfl, hb⟩; refine ⟨_, rfl, ?_⟩; have n0_ := Aside0.mk (blk_below (g := gb305) (o := .cells #[.int .i64 t301, .int .i64 t302] 25 (0, 0)) (by (with_reducible repeat first | apply bN | apply bD | apply bA); refine blk_far ?_ NB305_322.out _; (with_reducible repeat first | apply bN | apply bD | apply bA); refine blk_far ?_ NB305_322.out _; (with_reducible repeat first | apply bN | apply bD | apply bA); exact BK305.out) hb); have n1_ := Aside0.mk (blk_below (g := gb306) (o := .cells #[.int .i64 t303, .int .i64 t304] 25 (0, 0)) (by (with_reducible repeat first | apply bN | apply bD | apply bA); refine blk_far ?_ NB306_322.out _; (with_reducible repeat first | apply bN | apply bD | apply bA); refine blk_far ?_ NB306_322.out _; (with_reducible repeat first | apply bN | apply bD | apply bA); exact BK306.out) hb); have n2_ := Aside0.mk (blk_below (g := gb310) (o := .cells #[.int .i64 t307, .int .i64 t308] 25 (0, 0)) (by (with_reducible repeat first | apply bN | apply bD | apply bA); refine blk_far ?_ NB310_322.out _; (with_reducible repeat first | apply bN | apply bD | apply bA); refine blk_far ?_ NB310_322.out _; (with_reducible repeat first | apply bN | apply bD | apply bA); exact BK310.out) hb); have n3_ := Aside0.mk (blk_below (g := gb314) (o := .cells #[.int .i64 t311, .int .i64 t312] 25 (0, 0)) (by (with_reducible repeat first | apply bN | apply bD | apply bA); refine blk_far ?_ NB314_322.out _; (with_reducible repeat first | apply bN | apply bD | apply bA); refine blk_far ?_ NB314_322.out _; (with_reducible repeat first | apply bN | apply bD | apply bA); exact BK314.out) hb); have n4_ := Aside0.mk (blk_below (g := gb318) (o := .cells #[.int .i64 t315, .int .i64 t316] 25 (0, 0)) (by (with_reducible repeat first | apply bN | apply bD | apply bA); refine blk_far ?_ NB318_322.out _; (with_reducible repeat first | apply bN | apply bD | apply bA); refine blk_far ?_ NB318_322.out _; (with_reducible repeat first | apply bN | apply bD | apply bA); exact BK318.out) hb); have n5_ := Aside0.mk (blk_below (g := gb322) (o := .cells #[.int .i64 t319, .int .i64 t320] 25 (0, 0)) (by (with_reducible repeat first | apply bN | apply bD | apply bA); refine blk_put (cs := #[.int .i64 t319, .int .i64 0]) ?_ 1 _ rfl; (with_reducible repeat first | apply bN | apply bD | apply bA); refine blk_put (cs := #[.int .i64 0, .int .i64 0]) ?_ 0 _ rfl; (with_reducible repeat first | apply bN | apply bD | apply bA); exact BK322.out) hb); have n6_ := Aside0.mk (below_step (by repeat (first | (with_reducible first | exact HB.out | apply below_alloc | apply lN | apply lD | refine below_set ?_ GE305.out | refine below_set ?_ GE306.out | refine below_set ?_ GE310.out | refine below_set ?_ GE314.out | refine below_set ?_ GE318.out | refine below_set ?_ GE322.out) | exact HB.out)) hb); clear BK305; clear BK306; clear BK310; clear BK314; clear BK318; clear BK322; clear HB; have BK305 := n0_; have BK306 := n1_; have BK310 := n2_; have BK314 := n3_; have BK318 := n4_; have BK322 := n5_; have HB := n6_; clear n0_ n1_ n2_ n3_ n4_ n5_ n6_; (try clear hb); (try clear hb2); (try clear hk); (try clear hi); have hcz56_0 : w55.cell? ⟨gb305, 0, none⟩ = some (.int .i64 t301) := (blk_cell BK305.out 0).trans rfl; have hcz56_1 : w55.cell? ⟨gb305, 1, none⟩ = some (.int .i64 t302) := (blk_cell BK305.out 1).trans rfl; have hfz56_0 := blk_frozen BK305.out 0; have hfz56_1 := blk_frozen BK305.out 1; have hcz57_0 : w55.cell? ⟨gb306, 0, none⟩ = some (.int .i64 t303) := (blk_cell BK306.out 0).trans rfl; have hcz57_1 : w55.cell? ⟨gb306, 1, none⟩ = some (.int .i64 t304) := (blk_cell BK306.out 1).trans rfl; have hfz57_0 := blk_frozen BK306.out 0; have hfz57_1 := blk_frozen BK306.out 1) | ((with_reducible refine gate_callee (f := 11) rfl ?_); refine goesL_ (some 69) rfl rfl Try.func11 (by kernel_rfl) rfl #[.agg #[.int .i64 t301, .int .i64 t302], .agg #[.int .i64 t303, .int .i64 t304]] rfl (by (try simp only [List.map_toArray, List.map_cons, List.map_nil]); first | done | rfl | (go_simp; done) | simp) ?_; (with_reducible refine (spec_CompareRatios.calls k t301 t302 t303 t304 t325 t326 _ A10.out).mono ?_); rintro e w58 ⟨rfl, hb⟩; refine ⟨_, rfl, ?_⟩; have n0_ := Aside0.mk (blk_below (g := gb305) (o := .cells #[.int .i64 t301, .int .i64 t302] 25 (0, 0)) (by (with_reducible repeat first | apply bN | apply bD | apply bA); exact BK305.out) hb); have n1_ := Aside0.mk (blk_below (g := gb306) (o := .cells #[.int .i64 t303, .int .i64 t304] 25 (0, 0)) (by (with_reducible repeat first | apply bN | apply bD | apply bA); exact BK306.out) hb); have n2_ := Aside0.mk (blk_below (g := gb310) (o := .cells #[.int .i64 t307, .int .i64 t308] 25 (0, 0)) (by (with_reducible repeat first | apply bN | apply bD | apply bA); exact BK310.out) hb); have n3_ := Aside0.mk (blk_below (g := gb314) (o := .cells #[.int .i64 t311, .int .i64 t312] 25 (0, 0)) (by (with_reducible repeat first | apply bN | apply bD | apply bA); exact BK314.out) hb); have n4_ := Aside0.mk (blk_below (g := gb318) (o := .cells #[.int .i64 t315, .int .i64 t316] 25 (0, 0)) (by (with_reducible repeat first | apply bN | apply bD | apply bA); exact BK318.out) hb); have n5_ := Aside0.mk (blk_below (g := gb322) (o := .cells #[.int .i64 t319, .int .i64 t320] 25 (0, 0)) (by (with_reducible repeat first | apply bN | apply bD | apply bA); exact BK322.out) hb); have n6_ := Aside0.mk (below_step (by repeat (first | (with_reducible first | exact HB.out | apply below_alloc | apply lN | apply lD | refine below_set ?_ GE305.out | refine below_set ?_ GE306.out | refine below_set ?_ GE310.out | refine below_set ?_ GE314.out | refine below_set ?_ GE318.out | refine below_set ?_ GE322.out) | exact HB.out)) hb); clear BK305; clear BK306; clear BK310; clear BK314; clear BK318; clear BK322; clear HB; have BK305 := n0_; have BK306 := n1_; have BK310 := n2_; have BK314 := n3_; have BK318 := n4_; have BK322 := n5_; have HB := n6_; clear n0_ n1_ n2_ n3_ n4_ n5_ n6_; (try clear hb); (try clear hb2); (try clear hk); (try clear hi)) | ((with_reducible refine gate_callee (f := 12) rfl ?_); refine goesL_ (some 74) rfl rfl Try.func12 (by kernel_rfl) rfl #[.slice A0 l0.length c0] rfl (by (try simp only [List.map_toArray, List.map_cons, List.map_nil]); first | done | rfl | (go_simp; done) | simp) ?_; (with_reducible refine (spec_DrawMakeRatio.calls k _ _ l0 t327 t328 _ ?side1 ?side2 A11.out).mono ?_); (case side1 => repeat (first | exact (Kd.C_below HR0.out HB.out) | (with_reducible refine Kd.C_alloc ?_ _) | (with_reducible refine Kd.C_drewN ?_ _) | (with_reducible refine Kd.C_drew ?_))); (case side2 => exact HC0.out); rintro e w59 ⟨rfl, hb⟩; refine ⟨_, rfl, ?_⟩; have n0_ := Aside0.mk (blk_below (g := gb305) (o := .cells #[.int .i64 t301, .int .i64 t302] 25 (0, 0)) (by (with_reducible repeat first | apply bN | apply bD | apply bA); exact BK305.out) hb); have n1_ := Aside0.mk (blk_below (g := gb306) (o := .cells #[.int .i64 t303, .int .i64 t304] 25 (0, 0)) (by (with_reducible repeat first | apply bN | apply bD | apply bA); exact BK306.out) hb); have n2_ := Aside0.mk (blk_below (g := gb310) (o := .cells #[.int .i64 t307, .int .i64 t308] 25 (0, 0)) (by (with_reducible repeat first | apply bN | apply bD | apply bA); exact BK310.out) hb); have n3_ := Aside0.mk (blk_below (g := gb314) (o := .cells #[.int .i64 t311, .int .i64 t312] 25 (0, 0)) (by (with_reducible repeat first | apply bN | apply bD | apply bA); exact BK314.out) hb); have n4_ := Aside0.mk (blk_below (g := gb318) (o := .cells #[.int .i64 t315, .int .i64 t316] 25 (0, 0)) (by (with_reducible repeat first | apply bN | apply bD | apply bA); exact BK318.out) hb); have n5_ := Aside0.mk (blk_below (g := gb322) (o := .cells #[.int .i64 t319, .int .i64 t320] 25 (0, 0)) (by (with_reducible repeat first | apply bN | apply bD | apply bA); exact BK322.out) hb); have n6_ := Aside0.mk (below_step (by repeat (first | (with_reducible first | exact HB.out | apply below_alloc | apply lN | apply lD | refine below_set ?_ GE305.out | refine below_set ?_ GE306.out | refine below_set ?_ GE310.out | refine below_set ?_ GE314.out | refine below_set ?_ GE318.out | refine below_set ?_ GE322.out) | exact HB.out)) hb); clear BK305; clear BK306; clear BK310; clear BK314; clear BK318; clear BK322; clear HB; have BK305 := n0_; have BK306 := n1_; have BK310 := n2_; have BK314 := n3_; have BK318 := n4_; have BK322 := n5_; have HB := n6_; clear n0_ n1_ n2_ n3_ n4_ n5_ n6_; (try clear hb); (try clear hb2); (try clear hk); (try clear hi)) | ((with_reducible refine gate_callee (f := 13) rfl ?_); refine goesL_ (some 80) rfl rfl Try.func13 (by kernel_rfl) rfl #[.int .i64 t327, .int .i64 t328] rfl (by (try simp only [List.map_toArray, List.map_cons, List.map_nil]); first | done | rfl | (go_simp; done) | simp) ?_; (with_reducible refine (impl_MakeRatio.calls k t327 t328 t329 t330 t331 _ A12.out).mono ?_); rintro e w60 ⟨rfl, hb⟩; refine ⟨_, rfl, ?_⟩; have n0_ := Aside0.mk (blk_below (g := gb305) (o := .cells #[.int .i64 t301, .int .i64 t302] 25 (0, 0)) (by (with_reducible repeat first | apply bN | apply bD | apply bA); exact BK305.out) hb); have n1_ := Aside0.mk (blk_below (g := gb306) (o := .cells #[.int .i64 t303, .int .i64 t304] 25 (0, 0)) (by (with_reducible repeat first | apply bN | apply bD | apply bA); exact BK306.out) hb); have n2_ := Aside0.mk (blk_below (g := gb310) (o := .cells #[.int .i64 t307, .int .i64 t308] 25 (0, 0)) (by (with_reducible repeat first | apply bN | apply bD | apply bA); exact BK310.out) hb); have n3_ := Aside0.mk (blk_below (g := gb314) (o := .cells #[.int .i64 t311, .int .i64 t312] 25 (0, 0)) (by (with_reducible repeat first | apply bN | apply bD | apply bA); exact BK314.out) hb); have n4_ := Aside0.mk (blk_below (g := gb318) (o := .cells #[.int .i64 t315, .int .i64 t316] 25 (0, 0)) (by (with_reducible repeat first | apply bN | apply bD | apply bA); exact BK318.out) hb); have n5_ := Aside0.mk (blk_below (g := gb322) (o := .cells #[.int .i64 t319, .int .i64 t320] 25 (0, 0)) (by (with_reducible repeat first | apply bN | apply bD | apply bA); exact BK322.out) hb); have n6_ := Aside0.mk (below_step (by repeat (first | (with_reducible first | exact HB.out | apply below_alloc | apply lN | apply lD | refine below_set ?_ GE305.out | refine below_set ?_ GE306.out | refine below_set ?_ GE310.out | refine below_set ?_ GE314.out | refine below_set ?_ GE318.out | refine below_set ?_ GE322.out) | exact HB.out)) hb); clear BK305; clear BK306; clear BK310; clear BK314; clear BK318; clear BK322; clear HB; have BK305 := n0_; have BK306 := n1_; have BK310 := n2_; have BK314 := n3_; have BK318 := n4_; have BK322 := n5_; have HB := n6_; clear n0_ n1_ n2_ n3_ n4_ n5_ n6_; (try clear hb); (try clear hb2); (try clear hk); (try clear hi)) | ((with_reducible refine gate_dst (N := 19) rfl ?_); refine box_event ?hg (N := 19) ?hd (cs := #[.int .i64 0, .int .i64 0]) (t := 25) ?hr ?_; (case hd => rfl); (case hg => rfl); (case hr => first | (go_simp; done) | (go_simp; rfl)); intro gb332 hg w61 hbox hb; have n0_ := Aside0.mk (blk_below (g := gb305) (o := .cells #[.int .i64 t301, .int .i64 t302] 25 (0, 0)) (by (with_reducible repeat first | apply bN | apply bD | apply bA); exact BK305.out) hb); have n1_ := Aside0.mk (blk_below (g := gb306) (o := .cells #[.int .i64 t303, .int .i64 t304] 25 (0, 0)) (by (with_reducible repeat first | apply bN | apply bD | apply bA); exact BK306.out) hb); have n2_ := Aside0.mk (blk_below (g := gb310) (o := .cells #[.int .i64 t307, .int .i64 t308] 25 (0, 0)) (by (with_reducible repeat first | apply bN | apply bD | apply bA); exact BK310.out) hb); have n3_ := Aside0.mk (blk_below (g := gb314) (o := .cells #[.int .i64 t311, .int .i64 t312] 25 (0, 0)) (by (with_reducible repeat first | apply bN | apply bD | apply bA); exact BK314.out) hb); have n4_ := Aside0.mk (blk_below (g := gb318) (o := .cells #[.int .i64 t315, .int .i64 t316] 25 (0, 0)) (by (with_reducible repeat first | apply bN | apply bD | apply bA); exact BK318.out) hb); have n5_ := Aside0.mk (blk_below (g := gb322) (o := .cells #[.int .i64 t319, .int .i64 t320] 25 (0, 0)) (by (with_reducible repeat first | apply bN | apply bD | apply bA); exact BK322.out) hb); have n6_ := Aside0.mk (below_step (by repeat (first | (with_reducible first | exact HB.out | apply below_alloc | apply lN | apply lD | refine below_set ?_ GE305.out | refine below_set ?_ GE306.out | refine below_set ?_ GE310.out | refine below_set ?_ GE314.out | refine below_set ?_ GE318.out | refine below_set ?_ GE322.out) | exact HB.out)) hb); have n7_ := Aside0.mk (hbox); have n8_ := Aside0.mk ((by rw [hg]; exact (below_size (by repeat (first | (with_reducible first | exact HB.out | apply below_alloc | apply lN | apply lD | refine below_set ?_ GE305.out | refine below_set ?_ GE306.out | refine below_set ?_ GE310.out | refine below_set ?_ GE314.out | refine below_set ?_ GE318.out | refine below_set ?_ GE322.out) | exact HB.out))) : w.heap.size ≤ gb332)); have n9_ := Aside0.mk ((by rw [hg]; exact (below_size (by repeat (first | (with_reducible first | exact HB.out | apply below_alloc | apply lN | apply lD | refine below_set ?_ GE305.out | refine below_set ?_ GE306.out | refine below_set ?_ GE310.out | refine below_set ?_ GE314.out | refine below_set ?_ GE318.out | refine below_set ?_ GE322.out) | exact HB.out))) : w.heap.size ≤ gb332)); have n10_ := Aside0.mk ((by rw [hg]; exact Nat.ne_of_lt (blk_lt (g := gb305) (o := .cells #[.int .i64 t301, .int .i64 t302] 25 (0, 0)) (by (with_reducible repeat first | apply bN | apply bD | apply bA); exact BK305.out)) : gb305 ≠ gb332)); have n11_ := Aside0.mk ((by rw [hg]; exact Nat.ne_of_gt (blk_lt (g := gb305) (o := .cells #[.int .i64 t301, .int .i64 t302] 25 (0, 0)) (by (with_reducible repeat first | apply bN | apply bD | apply bA); exact BK305.out)) : gb332 ≠ gb305)); have n12_ := Aside0.mk ((by rw [hg]; exact Nat.ne_of_lt (blk_lt (g := gb306) (o := .cells #[.int .i64 t303, .int .i64 t304] 25 (0, 0)) (by (with_reducible repeat first | apply bN | apply bD | apply bA); exact BK306.out)) : gb306 ≠ gb332)); have n13_ := Aside0.mk ((by rw [hg]; exact Nat.ne_of_gt (blk_lt (g := gb306) (o := .cells #[.int .i64 t303, .int .i64 t304] 25 (0, 0)) (by (with_reducible repeat first | apply bN | apply bD | apply bA); exact BK306.out)) : gb332 ≠ gb306)); have n14_ := Aside0.mk ((by rw [hg]; exact Nat.ne_of_lt (blk_lt (g := gb310) (o := .cells #[.int .i64 t307, .int .i64 t308] 25 (0, 0)) (by (with_reducible repeat first | apply bN | apply bD | apply bA); exact BK310.out)) : gb310 ≠ gb332)); have n15_ := Aside0.mk ((by rw [hg]; exact Nat.ne_of_gt (blk_lt (g := gb310) (o := .cells #[.int .i64 t307, .int .i64 t308] 25 (0, 0)) (by (with_reducible repeat first | apply bN | apply bD | apply bA); exact BK310.out)) : gb332 ≠ gb310)); have n16_ := Aside0.mk ((by rw [hg]; exact Nat.ne_of_lt (blk_lt (g := gb314) (o := .cells #[.int .i64 t311, .int .i64 t312] 25 (0, 0)) (by (with_reducible repeat first | apply bN | apply bD | apply bA); exact BK314.out)) : gb314 ≠ gb332)); have n17_ := Aside0.mk ((by rw [hg]; exact Nat.ne_of_gt (blk_lt (g := gb314) (o := .cells #[.int .i64 t311, .int .i64 t312] 25 (0, 0)) (by (with_reducible repeat first | apply bN | apply bD | apply bA); exact BK314.out)) : gb332 ≠ gb314)); have n18_ := Aside0.mk ((by rw [hg]; exact Nat.ne_of_lt (blk_lt (g := gb318) (o := .cells #[.int .i64 t315, .int .i64 t316] 25 (0, 0)) (by (with_reducible repeat first | apply bN | apply bD | apply bA); exact BK318.out)) : gb318 ≠ gb332)); have n19_ := Aside0.mk ((by rw [hg]; exact Nat.ne_of_gt (blk_lt (g := gb318) (o := .cells #[.int .i64 t315, .int .i64 t316] 25 (0, 0)) (by (with_reducible repeat first | apply bN | apply bD | apply bA); exact BK318.out)) : gb332 ≠ gb318)); have n20_ := Aside0.mk ((by rw [hg]; exact Nat.ne_of_lt (blk_lt (g := gb322) (o := .cells #[.int .i64 t319, .int .i64 t320] 25 (0, 0)) (by (with_reducible repeat first | apply bN | apply bD | apply bA); exact BK322.out)) : gb322 ≠ gb332)); have n21_ := Aside0.mk ((by rw [hg]; exact Nat.ne_of_gt (blk_lt (g := gb322) (o := .cells #[.int .i64 t319, .int .i64 t320] 25 (0, 0)) (by (with_reducible repeat first | apply bN | apply bD | apply bA); exact BK322.out)) : gb332 ≠ gb322)); clear BK305; clear BK306; clear BK310; clear BK314; clear BK318; clear BK322; clear HB; have BK305 := n0_; have BK306 := n1_; have BK310 := n2_; have BK314 := n3_; have BK318 := n4_; have BK322 := n5_; have HB := n6_; have BK332 := n7_; have GW332 := n8_; have GE332 := n9_; have NB305_332 := n10_; have NB332_305 := n11_; have NB306_332 := n12_; have NB332_306 := n13_; have NB310_332 := n14_; have NB332_310 := n15_; have NB314_332 := n16_; have NB332_314 := n17_; have NB318_332 := n18_; have NB332_318 := n19_; have NB322_332 := n20_; have NB332_322 := n21_; clear n0_ n1_ n2_ n3_ n4_ n5_ n6_ n7_ n8_ n9_ n10_ n11_ n12_ n13_ n14_ n15_ n16_ n17_ n18_ n19_ n20_ n21_; clear hb hbox hg; have hnb62 := NB332_305.out; have hnc62 := NB305_332.out; have hnb63 := NB332_306.out; have hnc63 := NB306_332.out; have hnb64 := NB332_310.out; have hnc64 := NB310_332.out; have hnb65 := NB332_314.out; have hnc65 := NB314_332.out; have hnb66 := NB332_318.out; have hnc66 := NB318_332.out; have hnb67 := NB332_322.out; have hnc67 := NB322_332.out; have hcz68_0 : w61.cell? ⟨gb332, 0, none⟩ = some (.int .i64 0) := (blk_cell BK332.out 0).trans rfl; have hcz68_1 : w61.cell? ⟨gb332, 1, none⟩ = some (.int .i64 0) := (blk_cell BK332.out 1).trans rfl; have hfz68_0 := blk_frozen BK332.out 0; have hfz68_1 := blk_frozen BK332.out 1) | ((with_reducible refine gate_callee (f := 14) rfl ?_); refine goesL_ (some 86) rfl rfl Try.func14 (by kernel_rfl) rfl #[.int .i64 t327, .int .i64 t328] rfl (by (try simp only [List.map_toArray, List.map_cons, List.map_nil]); first | done | rfl | (go_simp; done) | simp) ?_; (with_reducible refine (spec_MakeRatio.calls k t327 t328 t333 t334 t335 _ A13.out).mono ?_); rintro e w69 ⟨rfl, hb⟩; refine ⟨_, rfl, ?_⟩; have n0_ := Aside0.mk (blk_below (g := gb305) (o := .cells #[.int .i64 t301, .int .i64 t302] 25 (0, 0)) (by (with_reducible repeat first | apply bN | apply bD | apply bA); refine blk_far ?_ NB305_332.out _; (with_reducible repeat first | apply bN | apply bD | apply bA); refine blk_far ?_ NB305_332.out _; (with_reducible repeat first | apply bN | apply bD | apply bA); exact BK305.out) hb); have n1_ := Aside0.mk (blk_below (g := gb306) (o := .cells #[.int .i64 t303, .int .i64 t304] 25 (0, 0)) (by (with_reducible repeat first | apply bN | apply bD | apply bA); refine blk_far ?_ NB306_332.out _; (with_reducible repeat first | apply bN | apply bD | apply bA); refine blk_far ?_ NB306_332.out _; (with_reducible repeat first | apply bN | apply bD | apply bA); exact BK306.out) hb); have n2_ := Aside0.mk (blk_below (g := gb310) (o := .cells #[.int .i64 t307, .int .i64 t308] 25 (0, 0)) (by (with_reducible repeat first | apply bN | apply bD | apply bA); refine blk_far ?_ NB310_332.out _; (with_reducible repeat first | apply bN | apply bD | apply bA); refine blk_far ?_ NB310_332.out _; (with_reducible repeat first | apply bN | apply bD | apply bA); exact BK310.out) hb); have n3_ := Aside0.mk (blk_below (g := gb314) (o := .cells #[.int .i64 t311, .int .i64 t312] 25 (0, 0)) (by (with_reducible repeat first | apply bN | apply bD | apply bA); refine blk_far ?_ NB314_332.out _; (with_reducible repeat first | apply bN | apply bD | apply bA); refine blk_far ?_ NB314_332.out _; (with_reducible repeat first | apply bN | apply bD | apply bA); exact BK314.out) hb); have n4_ := Aside0.mk (blk_below (g := gb318) (o := .cells #[.int .i64 t315, .int .i64 t316] 25 (0, 0)) (by (with_reducible repeat first | apply bN | apply bD | apply bA); refine blk_far ?_ NB318_332.out _; (with_reducible repeat first | apply bN | apply bD | apply bA); refine blk_far ?_ NB318_332.out _; (with_reducible repeat first | apply bN | apply bD | apply bA); exact BK318.out) hb); have n5_ := Aside0.mk (blk_below (g := gb322) (o := .cells #[.int .i64 t319, .int .i64 t320] 25 (0, 0)) (by (with_reducible repeat first | apply bN | apply bD | apply bA); refine blk_far ?_ NB322_332.out _; (with_reducible repeat first | apply bN | apply bD | apply bA); refine blk_far ?_ NB322_332.out _; (with_reducible repeat first | apply bN | apply bD | apply bA); exact BK322.out) hb); have n6_ := Aside0.mk (blk_below (g := gb332) (o := .cells #[.int .i64 t329, .int .i64 t330] 25 (0, 0)) (by (with_reducible repeat first | apply bN | apply bD | apply bA); refine blk_put (cs := #[.int .i64 t329, .int .i64 0]) ?_ 1 _ rfl; (with_reducible repeat first | apply bN | apply bD | apply bA); refine blk_put (cs := #[.int .i64 0, .int .i64 0]) ?_ 0 _ rfl; (with_reducible repeat first | apply bN | apply bD | apply bA); exact BK332.out) hb); have n7_ := Aside0.mk (below_step (by repeat (first | (with_reducible first | exact HB.out | apply below_alloc | apply lN | apply lD | refine below_set ?_ GE305.out | refine below_set ?_ GE306.out | refine below_set ?_ GE310.out | refine below_set ?_ GE314.out | refine below_set ?_ GE318.out | refine below_set ?_ GE322.out | refine below_set ?_ GE332.out) | exact HB.out)) hb); clear BK305; clear BK306; clear BK310; clear BK314; clear BK318; clear BK322; clear BK332; clear HB; have BK305 := n0_; have BK306 := n1_; have BK310 := n2_; have BK314 := n3_; have BK318 := n4_; have BK322 := n5_; have BK332 := n6_; have HB := n7_; clear n0_ n1_ n2_ n3_ n4_ n5_ n6_ n7_; (try clear hb); (try clear hb2); (try clear hk); (try clear hi)) | ((with_reducible refine gate_dst (N := 21) rfl ?_); refine box_event ?hg (N := 21) ?hd (cs := #[.int .i64 0, .int .i64 0]) (t := 25) ?hr ?_; (case hd => rfl); (case hg => rfl); (case hr => first | (go_simp; done) | (go_simp; rfl)); intro gb336 hg w70 hbox hb; have n0_ := Aside0.mk (blk_below (g := gb305) (o := .cells #[.int .i64 t301, .int .i64 t302] 25 (0, 0)) (by (with_reducible repeat first | apply bN | apply bD | apply bA); exact BK305.out) hb); have n1_ := Aside0.mk (blk_below (g := gb306) (o := .cells #[.int .i64 t303, .int .i64 t304] 25 (0, 0)) (by (with_reducible repeat first | apply bN | apply bD | apply bA); exact BK306.out) hb); have n2_ := Aside0.mk (blk_below (g := gb310) (o := .cells #[.int .i64 t307, .int .i64 t308] 25 (0, 0)) (by (with_reducible repeat first | apply bN | apply bD | apply bA); exact BK310.out) hb); have n3_ := Aside0.mk (blk_below (g := gb314) (o := .cells #[.int .i64 t311, .int .i64 t312] 25 (0, 0)) (by (with_reducible repeat first | apply bN | apply bD | apply bA); exact BK314.out) hb); have n4_ := Aside0.mk (blk_below (g := gb318) (o := .cells #[.int .i64 t315, .int .i64 t316] 25 (0, 0)) (by (with_reducible repeat first | apply bN | apply bD | apply bA); exact BK318.out) hb); have n5_ := Aside0.mk (blk_below (g := gb322) (o := .cells #[.int .i64 t319, .int .i64 t320] 25 (0, 0)) (by (with_reducible repeat first | apply bN | apply bD | apply bA); exact BK322.out) hb); have n6_ := Aside0.mk (blk_below (g := gb332) (o := .cells #[.int .i64 t329, .int .i64 t330] 25 (0, 0)) (by (with_reducible repeat first | apply bN | apply bD | apply bA); exact BK332.out) hb); have n7_ := Aside0.mk (below_step (by repeat (first | (with_reducible first | exact HB.out | apply below_alloc | apply lN | apply lD | refine below_set ?_ GE305.out | refine below_set ?_ GE306.out | refine below_set ?_ GE310.out | refine below_set ?_ GE314.out | refine below_set ?_ GE318.out | refine below_set ?_ GE322.out | refine below_set ?_ GE332.out) | exact HB.out)) hb); have n8_ := Aside0.mk (hbox); have n9_ := Aside0.mk ((by rw [hg]; exact (below_size (by repeat (first | (with_reducible first | exact HB.out | apply below_alloc | apply lN | apply lD | refine below_set ?_ GE305.out | refine below_set ?_ GE306.out | refine below_set ?_ GE310.out | refine below_set ?_ GE314.out | refine below_set ?_ GE318.out | refine below_set ?_ GE322.out | refine below_set ?_ GE332.out) | exact HB.out))) : w.heap.size ≤ gb336)); have n10_ := Aside0.mk ((by rw [hg]; exact (below_size (by repeat (first | (with_reducible first | exact HB.out | apply below_alloc | apply lN | apply lD | refine below_set ?_ GE305.out | refine below_set ?_ GE306.out | refine below_set ?_ GE310.out | refine below_set ?_ GE314.out | refine below_set ?_ GE318.out | refine below_set ?_ GE322.out | refine below_set ?_ GE332.out) | exact HB.out))) : w.heap.size ≤ gb336)); have n11_ := Aside0.mk ((by rw [hg]; exact Nat.ne_of_lt (blk_lt (g := gb305) (o := .cells #[.int .i64 t301, .int .i64 t302] 25 (0, 0)) (by (with_reducible repeat first | apply bN | apply bD | apply bA); exact BK305.out)) : gb305 ≠ gb336)); have n12_ := Aside0.mk ((by rw [hg]; exact Nat.ne_of_gt (blk_lt (g := gb305) (o := .cells #[.int .i64 t301, .int .i64 t302] 25 (0, 0)) (by (with_reducible repeat first | apply bN | apply bD | apply bA); exact BK305.out)) : gb336 ≠ gb305)); have n13_ := Aside0.mk ((by rw [hg]; exact Nat.ne_of_lt (blk_lt (g := gb306) (o := .cells #[.int .i64 t303, .int .i64 t304] 25 (0, 0)) (by (with_reducible repeat first | apply bN | apply bD | apply bA); exact BK306.out)) : gb306 ≠ gb336)); have n14_ := Aside0.mk ((by rw [hg]; exact Nat.ne_of_gt (blk_lt (g := gb306) (o := .cells #[.int .i64 t303, .int .i64 t304] 25 (0, 0)) (by (with_reducible repeat first | apply bN | apply bD | apply bA); exact BK306.out)) : gb336 ≠ gb306)); have n15_ := Aside0.mk ((by rw [hg]; exact Nat.ne_of_lt (blk_lt (g := gb310) (o := .cells #[.int .i64 t307, .int .i64 t308] 25 (0, 0)) (by (with_reducible repeat first | apply bN | apply bD | apply bA); exact BK310.out)) : gb310 ≠ gb336)); have n16_ := Aside0.mk ((by rw [hg]; exact Nat.ne_of_gt (blk_lt (g := gb310) (o := .cells #[.int .i64 t307, .int .i64 t308] 25 (0, 0)) (by (with_reducible repeat first | apply bN | apply bD | apply bA); exact BK310.out)) : gb336 ≠ gb310)); have n17_ := Aside0.mk ((by rw [hg]; exact Nat.ne_of_lt (blk_lt (g := gb314) (o := .cells #[.int .i64 t311, .int .i64 t312] 25 (0, 0)) (by (with_reducible repeat first | apply bN | apply bD | apply bA); exact BK314.out)) : gb314 ≠ gb336)); have n18_ := Aside0.mk ((by rw [hg]; exact Nat.ne_of_gt (blk_lt (g := gb314) (o := .cells #[.int .i64 t311, .int .i64 t312] 25 (0, 0)) (by (with_reducible repeat first | apply bN | apply bD | apply bA); exact BK314.out)) : gb336 ≠ gb314)); have n19_ := Aside0.mk ((by rw [hg]; exact Nat.ne_of_lt (blk_lt (g := gb318) (o := .cells #[.int .i64 t315, .int .i64 t316] 25 (0, 0)) (by (with_reducible repeat first | apply bN | apply bD | apply bA); exact BK318.out)) : gb318 ≠ gb336)); have n20_ := Aside0.mk ((by rw [hg]; exact Nat.ne_of_gt (blk_lt (g := gb318) (o := .cells #[.int .i64 t315, .int .i64 t316] 25 (0, 0)) (by (with_reducible repeat first | apply bN | apply bD | apply bA); exact BK318.out)) : gb336 ≠ gb318)); have n21_ := Aside0.mk ((by rw [hg]; exact Nat.ne_of_lt (blk_lt (g := gb322) (o := .cells #[.int .i64 t319, .int .i64 t320] 25 (0, 0)) (by (with_reducible repeat first | apply bN | apply bD | apply bA); exact BK322.out)) : gb322 ≠ gb336)); have n22_ := Aside0.mk ((by rw [hg]; exact Nat.ne_of_gt (blk_lt (g := gb322) (o := .cells #[.int .i64 t319, .int .i64 t320] 25 (0, 0)) (by (with_reducible repeat first | apply bN | apply bD | apply bA); exact BK322.out)) : gb336 ≠ gb322)); have n23_ := Aside0.mk ((by rw [hg]; exact Nat.ne_of_lt (blk_lt (g := gb332) (o := .cells #[.int .i64 t329, .int .i64 t330] 25 (0, 0)) (by (with_reducible repeat first | apply bN | apply bD | apply bA); exact BK332.out)) : gb332 ≠ gb336)); have n24_ := Aside0.mk ((by rw [hg]; exact Nat.ne_of_gt (blk_lt (g := gb332) (o := .cells #[.int .i64 t329, .int .i64 t330] 25 (0, 0)) (by (with_reducible repeat first | apply bN | apply bD | apply bA); exact BK332.out)) : gb336 ≠ gb332)); clear BK305; clear BK306; clear BK310; clear BK314; clear BK318; clear BK322; clear BK332; clear HB; have BK305 := n0_; have BK306 := n1_; have BK310 := n2_; have BK314 := n3_; have BK318 := n4_; have BK322 := n5_; have BK332 := n6_; have HB := n7_; have BK336 := n8_; have GW336 := n9_; have GE336 := n10_; have NB305_336 := n11_; have NB336_305 := n12_; have NB306_336 := n13_; have NB336_306 := n14_; have NB310_336 := n15_; have NB336_310 := n16_; have NB314_336 := n17_; have NB336_314 := n18_; have NB318_336 := n19_; have NB336_318 := n20_; have NB322_336 := n21_; have NB336_322 := n22_; have NB332_336 := n23_; have NB336_332 := n24_; clear n0_ n1_ n2_ n3_ n4_ n5_ n6_ n7_ n8_ n9_ n10_ n11_ n12_ n13_ n14_ n15_ n16_ n17_ n18_ n19_ n20_ n21_ n22_ n23_ n24_; clear hb hbox hg; have hnb71 := NB336_305.out; have hnc71 := NB305_336.out; have hnb72 := NB336_306.out; have hnc72 := NB306_336.out; have hnb73 := NB336_310.out; have hnc73 := NB310_336.out; have hnb74 := NB336_314.out; have hnc74 := NB314_336.out; have hnb75 := NB336_318.out; have hnc75 := NB318_336.out; have hnb76 := NB336_322.out; have hnc76 := NB322_336.out; have hnb77 := NB336_332.out; have hnc77 := NB332_336.out; have hcz78_0 : w70.cell? ⟨gb336, 0, none⟩ = some (.int .i64 0) := (blk_cell BK336.out 0).trans rfl; have hcz78_1 : w70.cell? ⟨gb336, 1, none⟩ = some (.int .i64 0) := (blk_cell BK336.out 1).trans rfl; have hfz78_0 := blk_frozen BK336.out 0; have hfz78_1 := blk_frozen BK336.out 1))
  (try simp only [Act.put, List.setIfInBounds_toArray, List.set_cons_zero, List.set_cons_succ])
  go_cut [133] (fun v133 wc => ∃ (kq : Nat) (x133_13 : Bool), v133 = .bool x133_13 ∧ Aside0 (laws_FnFractions.j0 kq t309 t317 t323 t324 t327 t328 t331 x133_13 t301 t302 t303 t304 t307 t308 t315 t316 t329 t330 = some r) ∧ Aside0 (kq ≤ k) ∧ Aside0 (wc.heap[gb305]? = some (.cells #[.int .i64 t301, .int .i64 t302] 25 (0, 0))) ∧ Aside0 (wc.heap[gb306]? = some (.cells #[.int .i64 t303, .int .i64 t304] 25 (0, 0))) ∧ Aside0 (wc.heap[gb310]? = some (.cells #[.int .i64 t307, .int .i64 t308] 25 (0, 0))) ∧ Aside0 (wc.heap[gb314]? = some (.cells #[.int .i64 t311, .int .i64 t312] 25 (0, 0))) ∧ Aside0 (wc.heap[gb318]? = some (.cells #[.int .i64 t315, .int .i64 t316] 25 (0, 0))) ∧ Aside0 (wc.heap[gb322]? = some (.cells #[.int .i64 t319, .int .i64 t320] 25 (0, 0))) ∧ Aside0 (wc.heap[gb332]? = some (.cells #[.int .i64 t329, .int .i64 t330] 25 (0, 0))) ∧ Aside0 (wc.heap[gb336]? = some (.cells #[.int .i64 t333, .int .i64 t334] 25 (0, 0))) ∧ Aside0 (Below w.heap.size w wc))
  case first =>
   have H := HC14.out
   clear HC14
   by_cases c79 : t309 = t313
   ·
    rw [if_pos c79] at H
    have c79b0 : (t309 == t313) = true := beq_iff_eq.mpr c79
    have c79b1 : (t309 != t313) = false := bne_eq_false_iff_eq.mpr c79
    clear c79
    (first | rw [c79b0] | (simp only [i64_w, i32_w]; rw [c79b0]) | skip)
    by_cases c80 : (!(t307 == t311) || (!(t308 == t312))) = true
    ·
     exact absurd c80 (by have e_ := EA.out _ _ _ _ _ _ _ _ _ _ _ A5.out A6.out; simp [e_.1, e_.2.1])
    ·
     rw [if_neg c80] at H
     have c80b0 : (!(t307 == t311) || (!(t308 == t312))) = false := by simpa using c80
     clear c80
     by_cases c83 : t317 = t321
     ·
      rw [if_pos c83] at H
      have c83b0 : (t317 == t321) = true := beq_iff_eq.mpr c83
      have c83b1 : (t317 != t321) = false := bne_eq_false_iff_eq.mpr c83
      clear c83
      by_cases c84 : (!(t315 == t319) || (!(t316 == t320))) = true
      ·
       exact absurd c84 (by have e_ := EM.out _ _ _ _ _ _ _ _ _ _ _ A7.out A8.out; simp [e_.1, e_.2.1])
      ·
       rw [if_neg c84] at H
       have c84b0 : (!(t315 == t319) || (!(t316 == t320))) = false := by simpa using c84
       clear c84
       by_cases c87 : t324 = t326
       ·
        rw [if_pos c87] at H
        have c87b0 : (t324 == t326) = true := beq_iff_eq.mpr c87
        have c87b1 : (t324 != t326) = false := bne_eq_false_iff_eq.mpr c87
        clear c87
        by_cases c88 : t323 = t325
        ·
         rw [if_pos c88] at H
         have c88b0 : (t323 == t325) = true := beq_iff_eq.mpr c88
         have c88b1 : (t323 != t325) = false := bne_eq_false_iff_eq.mpr c88
         clear c88
         by_cases c89 : t331 = t335
         ·
          rw [if_pos c89] at H
          have c89b0 : (t331 == t335) = true := beq_iff_eq.mpr c89
          have c89b1 : (t331 != t335) = false := bne_eq_false_iff_eq.mpr c89
          clear c89
          by_cases c90 : (!(t329 == t333) || (!(t330 == t334))) = true
          ·
           exact absurd c90 (by have e_ := EK.out _ _ _ _ _ _ _ _ _ A12.out A13.out; simp [e_.1, e_.2.1])
          ·
           rw [if_neg c90] at H
           have c90b0 : (!(t329 == t333) || (!(t330 == t334))) = false := by simpa using c90
           clear c90
           replace H := Option.bind_eq_some_iff.mp H
           obtain ⟨t337, A930, H⟩ := H
           (try dsimp only at H)
           have A93 := Aside0.mk A930
           clear A930
           replace H := Option.bind_eq_some_iff.mp H
           obtain ⟨t338, A940, H⟩ := H
           replace H : (laws_FnFractions.j0 k t309 t317 t323 t324 t327 t328 t331 (t337 != t338) t301 t302 t303 t304 t307 t308 t315 t316 t329 t330) = some r := H
           have A94 := Aside0.mk A940
           clear A940
           have H' := Aside0.mk H
           clear H
           try go_wp2
           have n0_ : Aside0 (((w70.setCell ⟨gb336, 0, none⟩ (.int .i64 t333)).setCell ⟨gb336, 1, none⟩ (.int .i64 t334)).heap[gb305]? = some (.cells #[.int .i64 t301, .int .i64 t302] 25 (0, 0))) := ⟨by (with_reducible repeat first | apply bN | apply bD | apply bA); refine blk_far ?_ NB305_336.out _; (with_reducible repeat first | apply bN | apply bD | apply bA); refine blk_far ?_ NB305_336.out _; (with_reducible repeat first | apply bN | apply bD | apply bA); exact BK305.out⟩
           have n1_ : Aside0 (((w70.setCell ⟨gb336, 0, none⟩ (.int .i64 t333)).setCell ⟨gb336, 1, none⟩ (.int .i64 t334)).heap[gb306]? = some (.cells #[.int .i64 t303, .int .i64 t304] 25 (0, 0))) := ⟨by (with_reducible repeat first | apply bN | apply bD | apply bA); refine blk_far ?_ NB306_336.out _; (with_reducible repeat first | apply bN | apply bD | apply bA); refine blk_far ?_ NB306_336.out _; (with_reducible repeat first | apply bN | apply bD | apply bA); exact BK306.out⟩
           have n2_ : Aside0 (((w70.setCell ⟨gb336, 0, none⟩ (.int .i64 t333)).setCell ⟨gb336, 1, none⟩ (.int .i64 t334)).heap[gb310]? = some (.cells #[.int .i64 t307, .int .i64 t308] 25 (0, 0))) := ⟨by (with_reducible repeat first | apply bN | apply bD | apply bA); refine blk_far ?_ NB310_336.out _; (with_reducible repeat first | apply bN | apply bD | apply bA); refine blk_far ?_ NB310_336.out _; (with_reducible repeat first | apply bN | apply bD | apply bA); exact BK310.out⟩
           have n3_ : Aside0 (((w70.setCell ⟨gb336, 0, none⟩ (.int .i64 t333)).setCell ⟨gb336, 1, none⟩ (.int .i64 t334)).heap[gb314]? = some (.cells #[.int .i64 t311, .int .i64 t312] 25 (0, 0))) := ⟨by (with_reducible repeat first | apply bN | apply bD | apply bA); refine blk_far ?_ NB314_336.out _; (with_reducible repeat first | apply bN | apply bD | apply bA); refine blk_far ?_ NB314_336.out _; (with_reducible repeat first | apply bN | apply bD | apply bA); exact BK314.out⟩
           have n4_ : Aside0 (((w70.setCell ⟨gb336, 0, none⟩ (.int .i64 t333)).setCell ⟨gb336, 1, none⟩ (.int .i64 t334)).heap[gb318]? = some (.cells #[.int .i64 t315, .int .i64 t316] 25 (0, 0))) := ⟨by (with_reducible repeat first | apply bN | apply bD | apply bA); refine blk_far ?_ NB318_336.out _; (with_reducible repeat first | apply bN | apply bD | apply bA); refine blk_far ?_ NB318_336.out _; (with_reducible repeat first | apply bN | apply bD | apply bA); exact BK318.out⟩
           have n5_ : Aside0 (((w70.setCell ⟨gb336, 0, none⟩ (.int .i64 t333)).setCell ⟨gb336, 1, none⟩ (.int .i64 t334)).heap[gb322]? = some (.cells #[.int .i64 t319, .int .i64 t320] 25 (0, 0))) := ⟨by (with_reducible repeat first | apply bN | apply bD | apply bA); refine blk_far ?_ NB322_336.out _; (with_reducible repeat first | apply bN | apply bD | apply bA); refine blk_far ?_ NB322_336.out _; (with_reducible repeat first | apply bN | apply bD | apply bA); exact BK322.out⟩
           have n6_ : Aside0 (((w70.setCell ⟨gb336, 0, none⟩ (.int .i64 t333)).setCell ⟨gb336, 1, none⟩ (.int .i64 t334)).heap[gb332]? = some (.cells #[.int .i64 t329, .int .i64 t330] 25 (0, 0))) := ⟨by (with_reducible repeat first | apply bN | apply bD | apply bA); refine blk_far ?_ NB332_336.out _; (with_reducible repeat first | apply bN | apply bD | apply bA); refine blk_far ?_ NB332_336.out _; (with_reducible repeat first | apply bN | apply bD | apply bA); exact BK332.out⟩
           have n7_ : Aside0 (((w70.setCell ⟨gb336, 0, none⟩ (.int .i64 t333)).setCell ⟨gb336, 1, none⟩ (.int .i64 t334)).heap[gb336]? = some (.cells #[.int .i64 t333, .int .i64 t334] 25 (0, 0))) := ⟨by (with_reducible repeat first | apply bN | apply bD | apply bA); refine blk_put (cs := #[.int .i64 t333, .int .i64 0]) ?_ 1 _ rfl; (with_reducible repeat first | apply bN | apply bD | apply bA); refine blk_put (cs := #[.int .i64 0, .int .i64 0]) ?_ 0 _ rfl; (with_reducible repeat first | apply bN | apply bD | apply bA); exact BK336.out⟩
           have n8_ : Aside0 (Below w.heap.size w ((w70.setCell ⟨gb336, 0, none⟩ (.int .i64 t333)).setCell ⟨gb336, 1, none⟩ (.int .i64 t334))) := ⟨by repeat (first | (with_reducible first | exact HB.out | apply below_alloc | apply lN | apply lD | refine below_set ?_ GE305.out | refine below_set ?_ GE306.out | refine below_set ?_ GE310.out | refine below_set ?_ GE314.out | refine below_set ?_ GE318.out | refine below_set ?_ GE322.out | refine below_set ?_ GE332.out | refine below_set ?_ GE336.out) | exact HB.out)⟩
           (try clear BK305)
           (try clear BK306)
           (try clear BK310)
           (try clear BK314)
           (try clear BK318)
           (try clear BK322)
           (try clear BK332)
           (try clear BK336)
           (try clear HB)
           generalize ((w70.setCell ⟨gb336, 0, none⟩ (.int .i64 t333)).setCell ⟨gb336, 1, none⟩ (.int .i64 t334)) = w95 at n0_ n1_ n2_ n3_ n4_ n5_ n6_ n7_ n8_ ⊢
           have BK305 := n0_
           have BK306 := n1_
           have BK310 := n2_
           have BK314 := n3_
           have BK318 := n4_
           have BK322 := n5_
           have BK332 := n6_
           have BK336 := n7_
           have HB := n8_
           clear n0_ n1_ n2_ n3_ n4_ n5_ n6_ n7_ n8_
           have n0_ := Aside0.mk (blk_drew BK305.out)
           have n1_ := Aside0.mk (blk_drew BK306.out)
           have n2_ := Aside0.mk (blk_drew BK310.out)
           have n3_ := Aside0.mk (blk_drew BK314.out)
           have n4_ := Aside0.mk (blk_drew BK318.out)
           have n5_ := Aside0.mk (blk_drew BK322.out)
           have n6_ := Aside0.mk (blk_drew BK332.out)
           have n7_ := Aside0.mk (blk_drew BK336.out)
           have n8_ := Aside0.mk (below_drew1 HB.out)
           clear BK305
           clear BK306
           clear BK310
           clear BK314
           clear BK318
           clear BK322
           clear BK332
           clear BK336
           clear HB
           have BK305 := n0_
           have BK306 := n1_
           have BK310 := n2_
           have BK314 := n3_
           have BK318 := n4_
           have BK322 := n5_
           have BK332 := n6_
           have BK336 := n7_
           have HB := n8_
           clear n0_ n1_ n2_ n3_ n4_ n5_ n6_ n7_ n8_
           refine start_ (n := 45) (S := fun w' => w'.cell? ⟨gb310, 0, none⟩ = some (.int .i64 t307) ∧ w'.cell? ⟨gb310, 1, none⟩ = some (.int .i64 t308) ∧ w'.cell? ⟨gb314, 0, none⟩ = some (.int .i64 t311) ∧ w'.cell? ⟨gb314, 1, none⟩ = some (.int .i64 t312) ∧ w'.cell? ⟨gb318, 0, none⟩ = some (.int .i64 t315) ∧ w'.cell? ⟨gb318, 1, none⟩ = some (.int .i64 t316) ∧ w'.cell? ⟨gb322, 0, none⟩ = some (.int .i64 t319) ∧ w'.cell? ⟨gb322, 1, none⟩ = some (.int .i64 t320) ∧ w'.cell? ⟨gb332, 0, none⟩ = some (.int .i64 t329) ∧ w'.cell? ⟨gb332, 1, none⟩ = some (.int .i64 t330) ∧ w'.cell? ⟨gb336, 0, none⟩ = some (.int .i64 t333) ∧ w'.cell? ⟨gb336, 1, none⟩ = some (.int .i64 t334) ∧ w'.cell? ⟨gb305, 0, none⟩ = some (.int .i64 t301) ∧ w'.cell? ⟨gb305, 1, none⟩ = some (.int .i64 t302)) (ds := []) #[false, false, false, false, false, false, false, false, false, false, false, false, false, false, false, false, false, false, false, false, false, false, false, false, false, false, false, false, false, false, false, false, false, false, false, false, false, false, false, false, false, false, false, false, false] (by kernel_rfl) rfl rfl ⟨(blk_cell BK310.out 0).trans rfl, (blk_cell BK310.out 1).trans rfl, (blk_cell BK314.out 0).trans rfl, (blk_cell BK314.out 1).trans rfl, (blk_cell BK318.out 0).trans rfl, (blk_cell BK318.out 1).trans rfl, (blk_cell BK322.out 0).trans rfl, (blk_cell BK322.out 1).trans rfl, (blk_cell BK332.out 0).trans rfl, (blk_cell BK332.out 1).trans rfl, (blk_cell BK336.out 0).trans rfl, (blk_cell BK336.out 1).trans rfl, (blk_cell BK305.out 0).trans rfl, (blk_cell BK305.out 1).trans rfl⟩ (fun hHeld => ?_); refine with_tabW laws_FnFractions.tab13 laws_FnFractions.bits13 (fun HT_ HW_ => ?_)
           generalize w95.drew = w96 at BK305 BK306 BK310 BK314 BK318 BK322 BK332 BK336 HB hHeld ⊢
           refine pure_ (i := 0) (N := some 89) (v := ?_) (a' := ?_) #[true, false, false, false, false, false, false, false, false, false, false, false, false, false, false, false, false, false, false, false, false, false, false, false, false, false, false, false, false, false, false, false, false, false, false, false, false, false, false, false, false, false, false, false, false] rfl rfl (any_of HT_.out (by kernel_rfl)) (fun _ _ _ h => h) (Or.inl ⟨by rfl, ?_⟩) ?_ ?_
           rotate_left
           ·
            intro w'
            go_simp
            with_reducible rfl
           rotate_left
           ·
            simp only [Act.put, List.setIfInBounds_toArray, List.set_cons_zero, List.set_cons_succ, i64_w, i32_w]
            rfl
           refine pure_ (i := 1) (N := some 90) (v := ?_) (a' := ?_) #[true, true, false, false, false, false, false, false, false, false, false, false, false, false, false, false, false, false, false, false, false, false, false, false, false, false, false, false, false, false, false, false, false, false, false, false, false, false, false, false, false, false, false, false, false] rfl rfl (any_of HT_.out (by kernel_rfl)) (fun _ _ _ h => h) (Or.inl ⟨by rfl, ?_⟩) ?_ ?_
           rotate_left
           ·
            intro w'
            go_simp
            with_reducible rfl
           rotate_left
           ·
            simp only [Act.put, List.setIfInBounds_toArray, List.set_cons_zero, List.set_cons_succ, i64_w, i32_w]
            rfl
           refine pure_ (i := 2) (N := some 91) (v := ?_) (a' := ?_) #[true, true, true, false, false, false, false, false, false, false, false, false, false, false, false, false, false, false, false, false, false, false, false, false, false, false, false, false, false, false, false, false, false, false, false, false, false, false, false, false, false, false, false, false, false] rfl rfl (any_of HT_.out (by kernel_rfl)) (fun _ _ _ h => h) (Or.inl ⟨by rfl, ?_⟩) ?_ ?_
           rotate_left
           ·
            intro w'
            go_simp
            with_reducible rfl
           rotate_left
           ·
            simp only [Act.put, List.setIfInBounds_toArray, List.set_cons_zero, List.set_cons_succ, i64_w, i32_w]
            rfl
           refine pure_ (i := 3) (N := some 92) (v := ?_) (a' := ?_) #[true, true, true, true, false, false, false, false, false, false, false, false, false, false, false, false, false, false, false, false, false, false, false, false, false, false, false, false, false, false, false, false, false, false, false, false, false, false, false, false, false, false, false, false, false] rfl rfl (any_of HT_.out (by kernel_rfl)) (fun _ _ _ h => h) (Or.inl ⟨by rfl, ?_⟩) ?_ ?_
           rotate_left
           ·
            intro w'
            go_simp
            with_reducible rfl
           rotate_left
           ·
            simp only [Act.put, List.setIfInBounds_toArray, List.set_cons_zero, List.set_cons_succ, i64_w, i32_w]
            rfl
           refine take_ (i := 4) (N := some 93) (v := ?_) (a' := ?_) #[true, true, true, true, true, false, false, false, false, false, false, false, false, false, false, false, false, false, false, false, false, false, false, false, false, false, false, false, false, false, false, false, false, false, false, false, false, false, false, false, false, false, false, false, false] rfl rfl (take_ofW HT_.out HW_.out (by kernel_rfl)) (fun _ _ _ h => h) (Or.inl ⟨by rfl, ?_⟩) hHeld ?_ ?_
           rotate_left
           ·
            rintro w' ⟨s0, s1, s2, s3, s4, s5, s6, s7, s8, s9, s10, s11, s12, s13⟩
            go_simp
            with_reducible rfl
           rotate_left
           ·
            simp only [Act.put, List.setIfInBounds_toArray, List.set_cons_zero, List.set_cons_succ, i64_w, i32_w]
            rfl
           refine take_ (i := 5) (N := some 94) (v := ?_) (a' := ?_) #[true, true, true, true, true, true, false, false, false, false, false, false, false, false, false, false, false, false, false, false, false, false, false, false, false, false, false, false, false, false, false, false, false, false, false, false, false, false, false, false, false, false, false, false, false] rfl rfl (take_ofW HT_.out HW_.out (by kernel_rfl)) (fun _ _ _ h => h) (Or.inl ⟨by rfl, ?_⟩) hHeld ?_ ?_
           rotate_left
           ·
            rintro w' ⟨s0, s1, s2, s3, s4, s5, s6, s7, s8, s9, s10, s11, s12, s13⟩
            go_simp
            with_reducible rfl
           rotate_left
           ·
            simp only [Act.put, List.setIfInBounds_toArray, List.set_cons_zero, List.set_cons_succ, i64_w, i32_w]
            rfl
           refine pure_ (i := 6) (N := some 95) (v := ?_) (a' := ?_) #[true, true, true, true, true, true, true, false, false, false, false, false, false, false, false, false, false, false, false, false, false, false, false, false, false, false, false, false, false, false, false, false, false, false, false, false, false, false, false, false, false, false, false, false, false] rfl rfl (any_of HT_.out (by kernel_rfl)) (fun _ _ _ h => h) (Or.inl ⟨by rfl, ?_⟩) ?_ ?_
           rotate_left
           ·
            intro w'
            go_simp
            with_reducible rfl
           rotate_left
           ·
            simp only [Act.put, List.setIfInBounds_toArray, List.set_cons_zero, List.set_cons_succ, i64_w, i32_w]
            rfl
           refine pure_ (i := 7) (N := some 96) (v := ?_) (a' := ?_) #[true, true, true, true, true, true, true, true, false, false, false, false, false, false, false, false, false, false, false, false, false, false, false, false, false, false, false, false, false, false, false, false, false, false, false, false, false, false, false, false, false, false, false, false, false] rfl rfl (any_of HT_.out (by kernel_rfl)) (fun _ _ _ h => h) (Or.inl ⟨by rfl, ?_⟩) ?_ ?_
           rotate_left
           ·
            intro w'
            go_simp
            with_reducible rfl
           rotate_left
           ·
            simp only [Act.put, List.setIfInBounds_toArray, List.set_cons_zero, List.set_cons_succ, i64_w, i32_w]
            rfl
           refine pure_ (i := 8) (N := some 97) (v := ?_) (a' := ?_) #[true, true, true, true, true, true, true, true, true, false, false, false, false, false, false, false, false, false, false, false, false, false, false, false, false, false, false, false, false, false, false, false, false, false, false, false, false, false, false, false, false, false, false, false, false] rfl rfl (any_of HT_.out (by kernel_rfl)) (fun _ _ _ h => h) (Or.inl ⟨by rfl, ?_⟩) ?_ ?_
           rotate_left
           ·
            intro w'
            go_simp
            with_reducible rfl
           rotate_left
           ·
            simp only [Act.put, List.setIfInBounds_toArray, List.set_cons_zero, List.set_cons_succ, i64_w, i32_w]
            rfl
           refine pure_ (i := 9) (N := some 98) (v := ?_) (a' := ?_) #[true, true, true, true, true, true, true, true, true, true, false, false, false, false, false, false, false, false, false, false, false, false, false, false, false, false, false, false, false, false, false, false, false, false, false, false, false, false, false, false, false, false, false, false, false] rfl rfl (any_of HT_.out (by kernel_rfl)) (fun _ _ _ h => h) (Or.inl ⟨by rfl, ?_⟩) ?_ ?_
           rotate_left
           ·
            intro w'
            go_simp
            with_reducible rfl
           rotate_left
           ·
            simp only [Act.put, List.setIfInBounds_toArray, List.set_cons_zero, List.set_cons_succ, i64_w, i32_w]
            rfl
           refine pure_ (i := 10) (N := some 99) (v := ?_) (a' := ?_) #[true, true, true, true, true, true, true, true, true, true, true, false, false, false, false, false, false, false, false, false, false, false, false, false, false, false, false, false, false, false, false, false, false, false, false, false, false, false, false, false, false, false, false, false, false] rfl rfl (any_of HT_.out (by kernel_rfl)) (fun _ _ _ h => h) (Or.inl ⟨by rfl, ?_⟩) ?_ ?_
           rotate_left
           ·
            intro w'
            go_simp
            with_reducible rfl
           rotate_left
           ·
            simp only [Act.put, List.setIfInBounds_toArray, List.set_cons_zero, List.set_cons_succ, i64_w, i32_w]
            rfl
           refine pure_ (i := 11) (N := some 100) (v := ?_) (a' := ?_) #[true, true, true, true, true, true, true, true, true, true, true, true, false, false, false, false, false, false, false, false, false, false, false, false, false, false, false, false, false, false, false, false, false, false, false, false, false, false, false, false, false, false, false, false, false] rfl rfl (any_of HT_.out (by kernel_rfl)) (fun _ _ _ h => h) (Or.inl ⟨by rfl, ?_⟩) ?_ ?_
           rotate_left
           ·
            intro w'
            go_simp
            with_reducible rfl
           rotate_left
           ·
            simp only [Act.put, List.setIfInBounds_toArray, List.set_cons_zero, List.set_cons_succ, i64_w, i32_w]
            rfl
           refine pure_ (i := 12) (N := some 101) (v := ?_) (a' := ?_) #[true, true, true, true, true, true, true, true, true, true, true, true, true, false, false, false, false, false, false, false, false, false, false, false, false, false, false, false, false, false, false, false, false, false, false, false, false, false, false, false, false, false, false, false, false] rfl rfl (any_of HT_.out (by kernel_rfl)) (fun _ _ _ h => h) (Or.inl ⟨by rfl, ?_⟩) ?_ ?_
           rotate_left
           ·
            intro w'
            go_simp
            with_reducible rfl
           rotate_left
           ·
            simp only [Act.put, List.setIfInBounds_toArray, List.set_cons_zero, List.set_cons_succ, i64_w, i32_w]
            rfl
           refine pure_ (i := 13) (N := some 102) (v := ?_) (a' := ?_) #[true, true, true, true, true, true, true, true, true, true, true, true, true, true, false, false, false, false, false, false, false, false, false, false, false, false, false, false, false, false, false, false, false, false, false, false, false, false, false, false, false, false, false, false, false] rfl rfl (any_of HT_.out (by kernel_rfl)) (fun _ _ _ h => h) (Or.inl ⟨by rfl, ?_⟩) ?_ ?_
           rotate_left
           ·
            intro w'
            go_simp
            with_reducible rfl
           rotate_left
           ·
            simp only [Act.put, List.setIfInBounds_toArray, List.set_cons_zero, List.set_cons_succ, i64_w, i32_w]
            rfl
           refine take_ (i := 14) (N := some 103) (v := ?_) (a' := ?_) #[true, true, true, true, true, true, true, true, true, true, true, true, true, true, true, false, false, false, false, false, false, false, false, false, false, false, false, false, false, false, false, false, false, false, false, false, false, false, false, false, false, false, false, false, false] rfl rfl (take_ofW HT_.out HW_.out (by kernel_rfl)) (fun _ _ _ h => h) (Or.inl ⟨by rfl, ?_⟩) hHeld ?_ ?_
           rotate_left
           ·
            rintro w' ⟨s0, s1, s2, s3, s4, s5, s6, s7, s8, s9, s10, s11, s12, s13⟩
            go_simp
            with_reducible rfl
           rotate_left
           ·
            simp only [Act.put, List.setIfInBounds_toArray, List.set_cons_zero, List.set_cons_succ, i64_w, i32_w]
            rfl
           refine take_ (i := 15) (N := some 104) (v := ?_) (a' := ?_) #[true, true, true, true, true, true, true, true, true, true, true, true, true, true, true, true, false, false, false, false, false, false, false, false, false, false, false, false, false, false, false, false, false, false, false, false, false, false, false, false, false, false, false, false, false] rfl rfl (take_ofW HT_.out HW_.out (by kernel_rfl)) (fun _ _ _ h => h) (Or.inl ⟨by rfl, ?_⟩) hHeld ?_ ?_
           rotate_left
           ·
            rintro w' ⟨s0, s1, s2, s3, s4, s5, s6, s7, s8, s9, s10, s11, s12, s13⟩
            go_simp
            with_reducible rfl
           rotate_left
           ·
            simp only [Act.put, List.setIfInBounds_toArray, List.set_cons_zero, List.set_cons_succ, i64_w, i32_w]
            rfl
           refine pure_ (i := 16) (N := some 105) (v := ?_) (a' := ?_) #[true, true, true, true, true, true, true, true, true, true, true, true, true, true, true, true, true, false, false, false, false, false, false, false, false, false, false, false, false, false, false, false, false, false, false, false, false, false, false, false, false, false, false, false, false] rfl rfl (any_of HT_.out (by kernel_rfl)) (fun _ _ _ h => h) (Or.inl ⟨by rfl, ?_⟩) ?_ ?_
           rotate_left
           ·
            intro w'
            go_simp
            with_reducible rfl
           rotate_left
           ·
            simp only [Act.put, List.setIfInBounds_toArray, List.set_cons_zero, List.set_cons_succ, i64_w, i32_w]
            rfl
           refine pure_ (i := 17) (N := some 106) (v := ?_) (a' := ?_) #[true, true, true, true, true, true, true, true, true, true, true, true, true, true, true, true, true, true, false, false, false, false, false, false, false, false, false, false, false, false, false, false, false, false, false, false, false, false, false, false, false, false, false, false, false] rfl rfl (any_of HT_.out (by kernel_rfl)) (fun _ _ _ h => h) (Or.inl ⟨by rfl, ?_⟩) ?_ ?_
           rotate_left
           ·
            intro w'
            go_simp
            with_reducible rfl
           rotate_left
           ·
            simp only [Act.put, List.setIfInBounds_toArray, List.set_cons_zero, List.set_cons_succ, i64_w, i32_w]
            rfl
           refine pure_ (i := 18) (N := some 107) (v := ?_) (a' := ?_) #[true, true, true, true, true, true, true, true, true, true, true, true, true, true, true, true, true, true, true, false, false, false, false, false, false, false, false, false, false, false, false, false, false, false, false, false, false, false, false, false, false, false, false, false, false] rfl rfl (any_of HT_.out (by kernel_rfl)) (fun _ _ _ h => h) (Or.inl ⟨by rfl, ?_⟩) ?_ ?_
           rotate_left
           ·
            intro w'
            go_simp
            with_reducible rfl
           rotate_left
           ·
            simp only [Act.put, List.setIfInBounds_toArray, List.set_cons_zero, List.set_cons_succ, i64_w, i32_w]
            rfl
           refine pure_ (i := 19) (N := some 108) (v := ?_) (a' := ?_) #[true, true, true, true, true, true, true, true, true, true, true, true, true, true, true, true, true, true, true, true, false, false, false, false, false, false, false, false, false, false, false, false, false, false, false, false, false, false, false, false, false, false, false, false, false] rfl rfl (any_of HT_.out (by kernel_rfl)) (fun _ _ _ h => h) (Or.inl ⟨by rfl, ?_⟩) ?_ ?_
           rotate_left
           ·
            intro w'
            go_simp
            with_reducible rfl
           rotate_left
           ·
            simp only [Act.put, List.setIfInBounds_toArray, List.set_cons_zero, List.set_cons_succ, i64_w, i32_w]
            rfl
           refine pure_ (i := 20) (N := some 109) (v := ?_) (a' := ?_) #[true, true, true, true, true, true, true, true, true, true, true, true, true, true, true, true, true, true, true, true, true, false, false, false, false, false, false, false, false, false, false, false, false, false, false, false, false, false, false, false, false, false, false, false, false] rfl rfl (any_of HT_.out (by kernel_rfl)) (fun _ _ _ h => h) (Or.inl ⟨by rfl, ?_⟩) ?_ ?_
           rotate_left
           ·
            intro w'
            go_simp
            with_reducible rfl
           rotate_left
           ·
            simp only [Act.put, List.setIfInBounds_toArray, List.set_cons_zero, List.set_cons_succ, i64_w, i32_w]
            rfl
           refine pure_ (i := 21) (N := some 110) (v := ?_) (a' := ?_) #[true, true, true, true, true, true, true, true, true, true, true, true, true, true, true, true, true, true, true, true, true, true, false, false, false, false, false, false, false, false, false, false, false, false, false, false, false, false, false, false, false, false, false, false, false] rfl rfl (any_of HT_.out (by kernel_rfl)) (fun _ _ _ h => h) (Or.inl ⟨by rfl, ?_⟩) ?_ ?_
           rotate_left
           ·
            intro w'
            go_simp
            with_reducible rfl
           rotate_left
           ·
            simp only [Act.put, List.setIfInBounds_toArray, List.set_cons_zero, List.set_cons_succ, i64_w, i32_w]
            rfl
           refine pure_ (i := 22) (N := some 111) (v := ?_) (a' := ?_) #[true, true, true, true, true, true, true, true, true, true, true, true, true, true, true, true, true, true, true, true, true, true, true, false, false, false, false, false, false, false, false, false, false, false, false, false, false, false, false, false, false, false, false, false, false] rfl rfl (any_of HT_.out (by kernel_rfl)) (fun _ _ _ h => h) (Or.inl ⟨by rfl, ?_⟩) ?_ ?_
           rotate_left
           ·
            intro w'
            go_simp
            with_reducible rfl
           rotate_left
           ·
            simp only [Act.put, List.setIfInBounds_toArray, List.set_cons_zero, List.set_cons_succ, i64_w, i32_w]
            rfl
           refine pure_ (i := 23) (N := some 112) (v := ?_) (a' := ?_) #[true, true, true, true, true, true, true, true, true, true, true, true, true, true, true, true, true, true, true, true, true, true, true, true, false, false, false, false, false, false, false, false, false, false, false, false, false, false, false, false, false, false, false, false, false] rfl rfl (any_of HT_.out (by kernel_rfl)) (fun _ _ _ h => h) (Or.inl ⟨by rfl, ?_⟩) ?_ ?_
           rotate_left
           ·
            intro w'
            go_simp
            with_reducible rfl
           rotate_left
           ·
            simp only [Act.put, List.setIfInBounds_toArray, List.set_cons_zero, List.set_cons_succ, i64_w, i32_w]
            rfl
           refine pure_ (i := 24) (N := some 113) (v := ?_) (a' := ?_) #[true, true, true, true, true, true, true, true, true, true, true, true, true, true, true, true, true, true, true, true, true, true, true, true, true, false, false, false, false, false, false, false, false, false, false, false, false, false, false, false, false, false, false, false, false] rfl rfl (any_of HT_.out (by kernel_rfl)) (fun _ _ _ h => h) (Or.inl ⟨by rfl, ?_⟩) ?_ ?_
           rotate_left
           ·
            intro w'
            go_simp
            with_reducible rfl
           rotate_left
           ·
            simp only [Act.put, List.setIfInBounds_toArray, List.set_cons_zero, List.set_cons_succ, i64_w, i32_w]
            rfl
           refine pure_ (i := 25) (N := some 114) (v := ?_) (a' := ?_) #[true, true, true, true, true, true, true, true, true, true, true, true, true, true, true, true, true, true, true, true, true, true, true, true, true, true, false, false, false, false, false, false, false, false, false, false, false, false, false, false, false, false, false, false, false] rfl rfl (any_of HT_.out (by kernel_rfl)) (fun _ _ _ h => h) (Or.inl ⟨by rfl, ?_⟩) ?_ ?_
           rotate_left
           ·
            intro w'
            go_simp
            with_reducible rfl
           rotate_left
           ·
            simp only [Act.put, List.setIfInBounds_toArray, List.set_cons_zero, List.set_cons_succ, i64_w, i32_w]
            rfl
           refine pure_ (i := 26) (N := some 115) (v := ?_) (a' := ?_) #[true, true, true, true, true, true, true, true, true, true, true, true, true, true, true, true, true, true, true, true, true, true, true, true, true, true, true, false, false, false, false, false, false, false, false, false, false, false, false, false, false, false, false, false, false] rfl rfl (any_of HT_.out (by kernel_rfl)) (fun _ _ _ h => h) (Or.inl ⟨by rfl, ?_⟩) ?_ ?_
           rotate_left
           ·
            intro w'
            go_simp
            with_reducible rfl
           rotate_left
           ·
            simp only [Act.put, List.setIfInBounds_toArray, List.set_cons_zero, List.set_cons_succ, i64_w, i32_w]
            rfl
           refine pure_ (i := 27) (N := some 116) (v := ?_) (a' := ?_) #[true, true, true, true, true, true, true, true, true, true, true, true, true, true, true, true, true, true, true, true, true, true, true, true, true, true, true, true, false, false, false, false, false, false, false, false, false, false, false, false, false, false, false, false, false] rfl rfl (any_of HT_.out (by kernel_rfl)) (fun _ _ _ h => h) (Or.inl ⟨by rfl, ?_⟩) ?_ ?_
           rotate_left
           ·
            intro w'
            go_simp
            with_reducible rfl
           rotate_left
           ·
            simp only [Act.put, List.setIfInBounds_toArray, List.set_cons_zero, List.set_cons_succ, i64_w, i32_w]
            rfl
           refine pure_ (i := 28) (N := some 117) (v := ?_) (a' := ?_) #[true, true, true, true, true, true, true, true, true, true, true, true, true, true, true, true, true, true, true, true, true, true, true, true, true, true, true, true, true, false, false, false, false, false, false, false, false, false, false, false, false, false, false, false, false] rfl rfl (any_of HT_.out (by kernel_rfl)) (fun _ _ _ h => h) (Or.inl ⟨by rfl, ?_⟩) ?_ ?_
           rotate_left
           ·
            intro w'
            go_simp
            with_reducible rfl
           rotate_left
           ·
            simp only [Act.put, List.setIfInBounds_toArray, List.set_cons_zero, List.set_cons_succ, i64_w, i32_w]
            rfl
           refine pure_ (i := 29) (N := some 118) (v := ?_) (a' := ?_) #[true, true, true, true, true, true, true, true, true, true, true, true, true, true, true, true, true, true, true, true, true, true, true, true, true, true, true, true, true, true, false, false, false, false, false, false, false, false, false, false, false, false, false, false, false] rfl rfl (any_of HT_.out (by kernel_rfl)) (fun _ _ _ h => h) (Or.inl ⟨by rfl, ?_⟩) ?_ ?_
           rotate_left
           ·
            intro w'
            go_simp
            with_reducible rfl
           rotate_left
           ·
            simp only [Act.put, List.setIfInBounds_toArray, List.set_cons_zero, List.set_cons_succ, i64_w, i32_w]
            rfl
           refine pure_ (i := 30) (N := some 119) (v := ?_) (a' := ?_) #[true, true, true, true, true, true, true, true, true, true, true, true, true, true, true, true, true, true, true, true, true, true, true, true, true, true, true, true, true, true, true, false, false, false, false, false, false, false, false, false, false, false, false, false, false] rfl rfl (any_of HT_.out (by kernel_rfl)) (fun _ _ _ h => h) (Or.inl ⟨by rfl, ?_⟩) ?_ ?_
           rotate_left
           ·
            intro w'
            go_simp
            with_reducible rfl
           rotate_left
           ·
            simp only [Act.put, List.setIfInBounds_toArray, List.set_cons_zero, List.set_cons_succ, i64_w, i32_w]
            rfl
           refine pure_ (i := 31) (N := some 120) (v := ?_) (a' := ?_) #[true, true, true, true, true, true, true, true, true, true, true, true, true, true, true, true, true, true, true, true, true, true, true, true, true, true, true, true, true, true, true, true, false, false, false, false, false, false, false, false, false, false, false, false, false] rfl rfl (any_of HT_.out (by kernel_rfl)) (fun _ _ _ h => h) (Or.inl ⟨by rfl, ?_⟩) ?_ ?_
           rotate_left
           ·
            intro w'
            go_simp
            with_reducible rfl
           rotate_left
           ·
            simp only [Act.put, List.setIfInBounds_toArray, List.set_cons_zero, List.set_cons_succ, i64_w, i32_w]
            rfl
           refine pure_ (i := 32) (N := some 121) (v := ?_) (a' := ?_) #[true, true, true, true, true, true, true, true, true, true, true, true, true, true, true, true, true, true, true, true, true, true, true, true, true, true, true, true, true, true, true, true, true, false, false, false, false, false, false, false, false, false, false, false, false] rfl rfl (any_of HT_.out (by kernel_rfl)) (fun _ _ _ h => h) (Or.inl ⟨by rfl, ?_⟩) ?_ ?_
           rotate_left
           ·
            intro w'
            go_simp
            with_reducible rfl
           rotate_left
           ·
            simp only [Act.put, List.setIfInBounds_toArray, List.set_cons_zero, List.set_cons_succ, i64_w, i32_w]
            rfl
           refine pure_ (i := 33) (N := some 122) (v := ?_) (a' := ?_) #[true, true, true, true, true, true, true, true, true, true, true, true, true, true, true, true, true, true, true, true, true, true, true, true, true, true, true, true, true, true, true, true, true, true, false, false, false, false, false, false, false, false, false, false, false] rfl rfl (any_of HT_.out (by kernel_rfl)) (fun _ _ _ h => h) (Or.inl ⟨by rfl, ?_⟩) ?_ ?_
           rotate_left
           ·
            intro w'
            go_simp
            with_reducible rfl
           rotate_left
           ·
            simp only [Act.put, List.setIfInBounds_toArray, List.set_cons_zero, List.set_cons_succ, i64_w, i32_w]
            rfl
           refine take_ (i := 34) (N := some 123) (v := ?_) (a' := ?_) #[true, true, true, true, true, true, true, true, true, true, true, true, true, true, true, true, true, true, true, true, true, true, true, true, true, true, true, true, true, true, true, true, true, true, true, false, false, false, false, false, false, false, false, false, false] rfl rfl (take_ofW HT_.out HW_.out (by kernel_rfl)) (fun _ _ _ h => h) (Or.inl ⟨by rfl, ?_⟩) hHeld ?_ ?_
           rotate_left
           ·
            rintro w' ⟨s0, s1, s2, s3, s4, s5, s6, s7, s8, s9, s10, s11, s12, s13⟩
            go_simp
            with_reducible rfl
           rotate_left
           ·
            simp only [Act.put, List.setIfInBounds_toArray, List.set_cons_zero, List.set_cons_succ, i64_w, i32_w]
            rfl
           refine take_ (i := 35) (N := some 124) (v := ?_) (a' := ?_) #[true, true, true, true, true, true, true, true, true, true, true, true, true, true, true, true, true, true, true, true, true, true, true, true, true, true, true, true, true, true, true, true, true, true, true, true, false, false, false, false, false, false, false, false, false] rfl rfl (take_ofW HT_.out HW_.out (by kernel_rfl)) (fun _ _ _ h => h) (Or.inl ⟨by rfl, ?_⟩) hHeld ?_ ?_
           rotate_left
           ·
            rintro w' ⟨s0, s1, s2, s3, s4, s5, s6, s7, s8, s9, s10, s11, s12, s13⟩
            go_simp
            with_reducible rfl
           rotate_left
           ·
            simp only [Act.put, List.setIfInBounds_toArray, List.set_cons_zero, List.set_cons_succ, i64_w, i32_w]
            rfl
           refine pure_ (i := 36) (N := some 125) (v := ?_) (a' := ?_) #[true, true, true, true, true, true, true, true, true, true, true, true, true, true, true, true, true, true, true, true, true, true, true, true, true, true, true, true, true, true, true, true, true, true, true, true, true, false, false, false, false, false, false, false, false] rfl rfl (any_of HT_.out (by kernel_rfl)) (fun _ _ _ h => h) (Or.inl ⟨by rfl, ?_⟩) ?_ ?_
           rotate_left
           ·
            intro w'
            go_simp
            with_reducible rfl
           rotate_left
           ·
            simp only [Act.put, List.setIfInBounds_toArray, List.set_cons_zero, List.set_cons_succ, i64_w, i32_w]
            rfl
           refine pure_ (i := 37) (N := some 126) (v := ?_) (a' := ?_) #[true, true, true, true, true, true, true, true, true, true, true, true, true, true, true, true, true, true, true, true, true, true, true, true, true, true, true, true, true, true, true, true, true, true, true, true, true, true, false, false, false, false, false, false, false] rfl rfl (any_of HT_.out (by kernel_rfl)) (fun _ _ _ h => h) (Or.inl ⟨by rfl, ?_⟩) ?_ ?_
           rotate_left
           ·
            intro w'
            go_simp
            with_reducible rfl
           rotate_left
           ·
            simp only [Act.put, List.setIfInBounds_toArray, List.set_cons_zero, List.set_cons_succ, i64_w, i32_w]
            rfl
           refine pure_ (i := 38) (N := some 127) (v := ?_) (a' := ?_) #[true, true, true, true, true, true, true, true, true, true, true, true, true, true, true, true, true, true, true, true, true, true, true, true, true, true, true, true, true, true, true, true, true, true, true, true, true, true, true, false, false, false, false, false, false] rfl rfl (any_of HT_.out (by kernel_rfl)) (fun _ _ _ h => h) (Or.inl ⟨by rfl, ?_⟩) ?_ ?_
           rotate_left
           ·
            intro w'
            go_simp
            with_reducible rfl
           rotate_left
           ·
            simp only [Act.put, List.setIfInBounds_toArray, List.set_cons_zero, List.set_cons_succ, i64_w, i32_w]
            rfl
           refine take_ (i := 39) (N := some 128) (v := ?_) (a' := ?_) #[true, true, true, true, true, true, true, true, true, true, true, true, true, true, true, true, true, true, true, true, true, true, true, true, true, true, true, true, true, true, true, true, true, true, true, true, true, true, true, true, false, false, false, false, false] rfl rfl (take_ofW HT_.out HW_.out (by kernel_rfl)) (fun _ _ _ h => h) (Or.inl ⟨by rfl, ?_⟩) hHeld ?_ ?_
           rotate_left
           ·
            rintro w' ⟨s0, s1, s2, s3, s4, s5, s6, s7, s8, s9, s10, s11, s12, s13⟩
            go_simp
            with_reducible rfl
           rotate_left
           ·
            simp only [Act.put, List.setIfInBounds_toArray, List.set_cons_zero, List.set_cons_succ, i64_w, i32_w]
            rfl
           refine take_ (i := 41) (N := some 130) (v := ?_) (a' := ?_) #[true, true, true, true, true, true, true, true, true, true, true, true, true, true, true, true, true, true, true, true, true, true, true, true, true, true, true, true, true, true, true, true, true, true, true, true, true, true, true, true, false, true, false, false, false] rfl rfl (take_ofW HT_.out HW_.out (by kernel_rfl)) (fun _ _ _ h => h) (Or.inl ⟨by rfl, ?_⟩) hHeld ?_ ?_
           rotate_left
           ·
            rintro w' ⟨s0, s1, s2, s3, s4, s5, s6, s7, s8, s9, s10, s11, s12, s13⟩
            go_simp
            with_reducible rfl
           rotate_left
           ·
            simp only [Act.put, List.setIfInBounds_toArray, List.set_cons_zero, List.set_cons_succ, i64_w, i32_w]
            rfl
           refine one_ (i := 40) (N := some 129) #[true, true, true, true, true, true, true, true, true, true, true, true, true, true, true, true, true, true, true, true, true, true, true, true, true, true, true, true, true, true, true, true, true, true, true, true, true, true, true, true, true, true, false, false, false] rfl rfl (one_of HT_.out (by kernel_rfl)) (by decide) (fun K hK => ?_)
           refine goes_ Try.func15 (by kernel_rfl) rfl #[.agg #[.int .i64 t301, .int .i64 t302]] (by rfl) rfl rfl (by (try simp only [List.map_toArray, List.map_cons, List.map_nil]); first | done | rfl | (go_simp; done) | simp) ?_
           with_reducible refine (impl_IsRatio.calls k t301 t302 t337 _ A93.out).mono ?_
           rintro e w97 ⟨rfl, hb⟩
           refine ⟨_, rfl, ?_⟩
           have n0_ := Aside0.mk (blk_below (g := gb305) (o := .cells #[.int .i64 t301, .int .i64 t302] 25 (0, 0)) (by (with_reducible repeat first | apply bN | apply bD | apply bA); exact BK305.out) hb)
           have n1_ := Aside0.mk (blk_below (g := gb306) (o := .cells #[.int .i64 t303, .int .i64 t304] 25 (0, 0)) (by (with_reducible repeat first | apply bN | apply bD | apply bA); exact BK306.out) hb)
           have n2_ := Aside0.mk (blk_below (g := gb310) (o := .cells #[.int .i64 t307, .int .i64 t308] 25 (0, 0)) (by (with_reducible repeat first | apply bN | apply bD | apply bA); exact BK310.out) hb)
           have n3_ := Aside0.mk (blk_below (g := gb314) (o := .cells #[.int .i64 t311, .int .i64 t312] 25 (0, 0)) (by (with_reducible repeat first | apply bN | apply bD | apply bA); exact BK314.out) hb)
           have n4_ := Aside0.mk (blk_below (g := gb318) (o := .cells #[.int .i64 t315, .int .i64 t316] 25 (0, 0)) (by (with_reducible repeat first | apply bN | apply bD | apply bA); exact BK318.out) hb)
           have n5_ := Aside0.mk (blk_below (g := gb322) (o := .cells #[.int .i64 t319, .int .i64 t320] 25 (0, 0)) (by (with_reducible repeat first | apply bN | apply bD | apply bA); exact BK322.out) hb)
           have n6_ := Aside0.mk (blk_below (g := gb332) (o := .cells #[.int .i64 t329, .int .i64 t330] 25 (0, 0)) (by (with_reducible repeat first | apply bN | apply bD | apply bA); exact BK332.out) hb)
           have n7_ := Aside0.mk (blk_below (g := gb336) (o := .cells #[.int .i64 t333, .int .i64 t334] 25 (0, 0)) (by (with_reducible repeat first | apply bN | apply bD | apply bA); exact BK336.out) hb)
           have n8_ := Aside0.mk (below_step (by repeat (first | (with_reducible first | exact HB.out | apply below_alloc | apply lN | apply lD | refine below_set ?_ GE305.out | refine below_set ?_ GE306.out | refine below_set ?_ GE310.out | refine below_set ?_ GE314.out | refine below_set ?_ GE318.out | refine below_set ?_ GE322.out | refine below_set ?_ GE332.out | refine below_set ?_ GE336.out) | exact HB.out)) hb)
           clear BK305
           clear BK306
           clear BK310
           clear BK314
           clear BK318
           clear BK322
           clear BK332
           clear BK336
           clear HB
           have BK305 := n0_
           have BK306 := n1_
           have BK310 := n2_
           have BK314 := n3_
           have BK318 := n4_
           have BK322 := n5_
           have BK332 := n6_
           have BK336 := n7_
           have HB := n8_
           clear n0_ n1_ n2_ n3_ n4_ n5_ n6_ n7_ n8_
           (try clear hb)
           (try clear hb2)
           (try clear hk)
           (try clear hi)
           refine hK.out _ _ ⟨(blk_cell BK310.out 0).trans rfl, (blk_cell BK310.out 1).trans rfl, (blk_cell BK314.out 0).trans rfl, (blk_cell BK314.out 1).trans rfl, (blk_cell BK318.out 0).trans rfl, (blk_cell BK318.out 1).trans rfl, (blk_cell BK322.out 0).trans rfl, (blk_cell BK322.out 1).trans rfl, (blk_cell BK332.out 0).trans rfl, (blk_cell BK332.out 1).trans rfl, (blk_cell BK336.out 0).trans rfl, (blk_cell BK336.out 1).trans rfl, (blk_cell BK305.out 0).trans rfl, (blk_cell BK305.out 1).trans rfl⟩ (fun hHeld => ?_)
           clear hK K
           refine norm_ (a' := ?_) ?_ ?_
           rotate_left
           ·
            show Act.put _ (some 129) _ = _
            simp only [Act.put, List.setIfInBounds_toArray, List.set_cons_zero, List.set_cons_succ, i64_w, i32_w]
            rfl
           refine one_ (i := 42) (N := some 131) #[true, true, true, true, true, true, true, true, true, true, true, true, true, true, true, true, true, true, true, true, true, true, true, true, true, true, true, true, true, true, true, true, true, true, true, true, true, true, true, true, true, true, true, false, false] rfl rfl (one_of HT_.out (by kernel_rfl)) (by decide) (fun K hK => ?_)
           refine goes_ Try.func16 (by kernel_rfl) rfl #[.agg #[.int .i64 t301, .int .i64 t302]] (by rfl) rfl rfl (by (try simp only [List.map_toArray, List.map_cons, List.map_nil]); first | done | rfl | (go_simp; done) | simp) ?_
           with_reducible refine (spec_IsRatio.calls k t301 t302 t338 _ A94.out).mono ?_
           rintro e w98 ⟨rfl, hb⟩
           refine ⟨_, rfl, ?_⟩
           have n0_ := Aside0.mk (blk_below (g := gb305) (o := .cells #[.int .i64 t301, .int .i64 t302] 25 (0, 0)) (by (with_reducible repeat first | apply bN | apply bD | apply bA); exact BK305.out) hb)
           have n1_ := Aside0.mk (blk_below (g := gb306) (o := .cells #[.int .i64 t303, .int .i64 t304] 25 (0, 0)) (by (with_reducible repeat first | apply bN | apply bD | apply bA); exact BK306.out) hb)
           have n2_ := Aside0.mk (blk_below (g := gb310) (o := .cells #[.int .i64 t307, .int .i64 t308] 25 (0, 0)) (by (with_reducible repeat first | apply bN | apply bD | apply bA); exact BK310.out) hb)
           have n3_ := Aside0.mk (blk_below (g := gb314) (o := .cells #[.int .i64 t311, .int .i64 t312] 25 (0, 0)) (by (with_reducible repeat first | apply bN | apply bD | apply bA); exact BK314.out) hb)
           have n4_ := Aside0.mk (blk_below (g := gb318) (o := .cells #[.int .i64 t315, .int .i64 t316] 25 (0, 0)) (by (with_reducible repeat first | apply bN | apply bD | apply bA); exact BK318.out) hb)
           have n5_ := Aside0.mk (blk_below (g := gb322) (o := .cells #[.int .i64 t319, .int .i64 t320] 25 (0, 0)) (by (with_reducible repeat first | apply bN | apply bD | apply bA); exact BK322.out) hb)
           have n6_ := Aside0.mk (blk_below (g := gb332) (o := .cells #[.int .i64 t329, .int .i64 t330] 25 (0, 0)) (by (with_reducible repeat first | apply bN | apply bD | apply bA); exact BK332.out) hb)
           have n7_ := Aside0.mk (blk_below (g := gb336) (o := .cells #[.int .i64 t333, .int .i64 t334] 25 (0, 0)) (by (with_reducible repeat first | apply bN | apply bD | apply bA); exact BK336.out) hb)
           have n8_ := Aside0.mk (below_step (by repeat (first | (with_reducible first | exact HB.out | apply below_alloc | apply lN | apply lD | refine below_set ?_ GE305.out | refine below_set ?_ GE306.out | refine below_set ?_ GE310.out | refine below_set ?_ GE314.out | refine below_set ?_ GE318.out | refine below_set ?_ GE322.out | refine below_set ?_ GE332.out | refine below_set ?_ GE336.out) | exact HB.out)) hb)
           clear BK305
           clear BK306
           clear BK310
           clear BK314
           clear BK318
           clear BK322
           clear BK332
           clear BK336
           clear HB
           have BK305 := n0_
           have BK306 := n1_
           have BK310 := n2_
           have BK314 := n3_
           have BK318 := n4_
           have BK322 := n5_
           have BK332 := n6_
           have BK336 := n7_
           have HB := n8_
           clear n0_ n1_ n2_ n3_ n4_ n5_ n6_ n7_ n8_
           (try clear hb)
           (try clear hb2)
           (try clear hk)
           (try clear hi)
           refine hK.out _ _ ⟨(blk_cell BK310.out 0).trans rfl, (blk_cell BK310.out 1).trans rfl, (blk_cell BK314.out 0).trans rfl, (blk_cell BK314.out 1).trans rfl, (blk_cell BK318.out 0).trans rfl, (blk_cell BK318.out 1).trans rfl, (blk_cell BK322.out 0).trans rfl, (blk_cell BK322.out 1).trans rfl, (blk_cell BK332.out 0).trans rfl, (blk_cell BK332.out 1).trans rfl, (blk_cell BK336.out 0).trans rfl, (blk_cell BK336.out 1).trans rfl, (blk_cell BK305.out 0).trans rfl, (blk_cell BK305.out 1).trans rfl⟩ (fun hHeld => ?_)
           clear hK K
           refine norm_ (a' := ?_) ?_ ?_
           rotate_left
           ·
            show Act.put _ (some 131) _ = _
            simp only [Act.put, List.setIfInBounds_toArray, List.set_cons_zero, List.set_cons_succ, i64_w, i32_w]
            rfl
           refine pure_ (i := 43) (N := some 132) (v := ?_) (a' := ?_) #[true, true, true, true, true, true, true, true, true, true, true, true, true, true, true, true, true, true, true, true, true, true, true, true, true, true, true, true, true, true, true, true, true, true, true, true, true, true, true, true, true, true, true, true, false] rfl rfl (any_of HT_.out (by kernel_rfl)) (fun _ _ _ h => h) (Or.inl ⟨by rfl, ?_⟩) ?_ ?_
           rotate_left
           ·
            intro w'
            go_simp
            with_reducible rfl
           rotate_left
           ·
            simp only [Act.put, List.setIfInBounds_toArray, List.set_cons_zero, List.set_cons_succ, i64_w, i32_w]
            rfl
           refine pure_ (i := 44) (N := some 133) (v := ?_) (a' := ?_) #[true, true, true, true, true, true, true, true, true, true, true, true, true, true, true, true, true, true, true, true, true, true, true, true, true, true, true, true, true, true, true, true, true, true, true, true, true, true, true, true, true, true, true, true, true] rfl rfl (any_of HT_.out (by kernel_rfl)) (fun _ _ _ h => h) (Or.inl ⟨by rfl, ?_⟩) ?_ ?_
           rotate_left
           ·
            intro w'
            go_simp
            with_reducible rfl
           rotate_left
           ·
            simp only [Act.put, List.setIfInBounds_toArray, List.set_cons_zero, List.set_cons_succ, i64_w, i32_w]
            rfl
           refine done_ (done_of HT_.out (by kernel_rfl)) ?_
           try go_wp2
           go_meet
           case rel => exact ⟨_, ((t337 != t338)), (by first | rfl | (simp; done) | (simp [*]; done)), H', ⟨by first | omega | exact Nat.le_refl _⟩, ⟨by (with_reducible repeat first | apply bN | apply bD | apply bA); exact BK305.out⟩, ⟨by (with_reducible repeat first | apply bN | apply bD | apply bA); exact BK306.out⟩, ⟨by (with_reducible repeat first | apply bN | apply bD | apply bA); exact BK310.out⟩, ⟨by (with_reducible repeat first | apply bN | apply bD | apply bA); exact BK314.out⟩, ⟨by (with_reducible repeat first | apply bN | apply bD | apply bA); exact BK318.out⟩, ⟨by (with_reducible repeat first | apply bN | apply bD | apply bA); exact BK322.out⟩, ⟨by (with_reducible repeat first | apply bN | apply bD | apply bA); exact BK332.out⟩, ⟨by (with_reducible repeat first | apply bN | apply bD | apply bA); exact BK336.out⟩, ⟨by repeat (first | (with_reducible first | exact HB.out | apply below_alloc | apply lN | apply lD | refine below_set ?_ GE305.out | refine below_set ?_ GE306.out | refine below_set ?_ GE310.out | refine below_set ?_ GE314.out | refine below_set ?_ GE318.out | refine below_set ?_ GE322.out | refine below_set ?_ GE332.out | refine below_set ?_ GE336.out) | exact HB.out)⟩⟩
         ·
          exact absurd (EK.out _ _ _ _ _ _ _ _ _ A12.out A13.out).2.2 c89
        ·
         exact absurd (EC.out _ _ _ _ _ _ _ _ _ A9.out A10.out).1 c88
       ·
        exact absurd (EC.out _ _ _ _ _ _ _ _ _ A9.out A10.out).2 c87
     ·
      exact absurd (EM.out _ _ _ _ _ _ _ _ _ _ _ A7.out A8.out).2.2 c83
   ·
    exact absurd (EA.out _ _ _ _ _ _ _ _ _ _ _ A5.out A6.out).2.2 c79
  case rest =>
   clear HC14
   try clear p2
   try clear c7
   try clear c79
   try clear c79b0
   try clear c79b1
   obtain ⟨kq, x133_13, rfl, HA, HJ13, BK305, BK306, BK310, BK314, BK318, BK322, BK332, BK336, HB⟩ := hcut
   cases kq with
   | zero => exact absurd HA.out (by simp [laws_FnFractions.j0])
   | succ kj13 =>
    have H := HA.out
    clear HA
    simp only [laws_FnFractions.j0] at H
    by_cases c109 : x133_13 = true
    ·
     subst c109
     have H1 : (some false) = some r := by rw [if_pos rfl] at H; exact H
     clear H
     have H := H1
     clear H1
     obtain rfl := Option.some.inj H
     exact absurd hr_.out (by decide)
    ·
     replace c109 := Bool.eq_false_iff.mpr c109
     subst c109
     have H1 : ((impl_AddRatios.f kj13 t303 t304 t301 t302).bind fun bt339 => ((impl_MultiplyRatios.f kj13 t303 t304 t301 t302).bind fun bt343 => ((impl_CompareRatios.f kj13 t303 t304 t301 t302).bind fun bt347 => (if bt339.2.2 = t309 then (if (!(bt339.1 == t307) || (!(bt339.2.1 == t308))) = true then (some false) else (if bt343.2.2 = t317 then (if (!(bt343.1 == t315) || (!(bt343.2.1 == t316))) = true then (some false) else (if bt347.2 = t324 then (if bt347.1 = (wrap64 (-t323)) then (if t331 = 0 then ((impl_IsRatio.f kj13 t329 t330).bind fun t349 => (if t349 = true then (if t330 = 0 then (none) else (if (Int.tmod t328 t330) = 0 then (some ((wrap64 ((wrap64 (Int.tdiv t328 t330)) * t329)) == t327)) else (some false))) else (some false))) else (some true)) else (some false)) else (some false))) else (some false))) else (some false))))) = some r := by rw [if_neg (show ¬ (false = true) by decide)] at H; exact H
     clear H
     have H := H1
     clear H1
     replace H := Option.bind_eq_some_iff.mp H
     obtain ⟨⟨t339, t340, t341⟩, A1100, H⟩ := H
     (try dsimp only at H)
     have A110 := Aside0.mk A1100
     clear A1100
     replace H := Option.bind_eq_some_iff.mp H
     obtain ⟨⟨t343, t344, t345⟩, A1110, H⟩ := H
     (try dsimp only at H)
     have A111 := Aside0.mk A1110
     clear A1110
     replace H := Option.bind_eq_some_iff.mp H
     obtain ⟨⟨t347, t348⟩, A1120, H⟩ := H
     (try dsimp only at H)
     have A112 := Aside0.mk A1120
     clear A1120
     by_cases c113 : t341 = t309
     ·
      rw [if_pos c113] at H
      have c113b0 : (t341 == t309) = true := beq_iff_eq.mpr c113
      have c113b1 : (t341 != t309) = false := bne_eq_false_iff_eq.mpr c113
      clear c113
      by_cases c114 : (!(t339 == t307) || (!(t340 == t308))) = true
      ·
       rw [if_pos c114] at H
       have c114b0 : (!(t339 == t307) || (!(t340 == t308))) = true := c114
       clear c114
       obtain rfl := Option.some.inj H
       exact absurd hr_.out (by decide)
      ·
       rw [if_neg c114] at H
       have c114b0 : (!(t339 == t307) || (!(t340 == t308))) = false := by simpa using c114
       clear c114
       by_cases c115 : t345 = t317
       ·
        rw [if_pos c115] at H
        have c115b0 : (t345 == t317) = true := beq_iff_eq.mpr c115
        have c115b1 : (t345 != t317) = false := bne_eq_false_iff_eq.mpr c115
        clear c115
        by_cases c116 : (!(t343 == t315) || (!(t344 == t316))) = true
        ·
         rw [if_pos c116] at H
         have c116b0 : (!(t343 == t315) || (!(t344 == t316))) = true := c116
         clear c116
         obtain rfl := Option.some.inj H
         exact absurd hr_.out (by decide)
        ·
         rw [if_neg c116] at H
         have c116b0 : (!(t343 == t315) || (!(t344 == t316))) = false := by simpa using c116
         clear c116
         by_cases c117 : t348 = t324
         ·
          rw [if_pos c117] at H
          have c117b0 : (t348 == t324) = true := beq_iff_eq.mpr c117
          have c117b1 : (t348 != t324) = false := bne_eq_false_iff_eq.mpr c117
          clear c117
          by_cases c118 : t347 = (wrap64 (-t323))
          ·
           rw [if_pos c118] at H
           have c118b0 : (t347 == (wrap64 (-t323))) = true := beq_iff_eq.mpr c118
           have c118b1 : (t347 != (wrap64 (-t323))) = false := bne_eq_false_iff_eq.mpr c118
           clear c118
           by_cases c119 : t331 = 0
           ·
            rw [if_pos c119] at H
            have c119b0 : (t331 == 0) = true := beq_iff_eq.mpr c119
            have c119b1 : (t331 != 0) = false := bne_eq_false_iff_eq.mpr c119
            clear c119
            replace H := Option.bind_eq_some_iff.mp H
            obtain ⟨t349, A1200, H⟩ := H
            (try dsimp only at H)
            have A120 := Aside0.mk A1200
            clear A1200
            by_cases c121 : t349 = true
            ·
             subst c121
             have H1 : (if t330 = 0 then (none) else (if (Int.tmod t328 t330) = 0 then (some ((wrap64 ((wrap64 (Int.tdiv t328 t330)) * t329)) == t327)) else (some false))) = some r := by rw [if_pos rfl] at H; exact H
             clear H
             have H := H1
             clear H1
             by_cases c122 : t330 = 0
             ·
              rw [if_pos c122] at H
              exact absurd H (by simp)
             ·
              rw [if_neg c122] at H
              have c122b0 : (t330 == 0) = false := beq_eq_false_iff_ne.mpr c122
              have c122b1 : (t330 != 0) = true := bne_iff_ne.mpr c122
              by_cases c123 : (Int.tmod t328 t330) = 0
              ·
               rw [if_pos c123] at H
               have c123b0 : ((Int.tmod t328 t330) == 0) = true := beq_iff_eq.mpr c123
               have c123b1 : ((Int.tmod t328 t330) != 0) = false := bne_eq_false_iff_eq.mpr c123
               clear c123
               obtain rfl := Option.some.inj H
               simp only [Option.some.injEq, Prod.mk.injEq] at H
               obtain ⟨rfl⟩ := H
               have hnb124 := NB306_305.out
               have hnc124 := NB305_306.out
               have hnb125 := NB306_310.out
               have hnc125 := NB310_306.out
               have hnb126 := NB306_314.out
               have hnc126 := NB314_306.out
               have hnb127 := NB306_318.out
               have hnc127 := NB318_306.out
               have hnb128 := NB306_322.out
               have hnc128 := NB322_306.out
               have hnb129 := NB306_332.out
               have hnc129 := NB332_306.out
               have hnb130 := NB306_336.out
               have hnc130 := NB336_306.out
               have hcz131_0 : wc.cell? ⟨gb306, 0, none⟩ = some (.int .i64 t303) := (blk_cell BK306.out 0).trans rfl
               have hcz131_1 : wc.cell? ⟨gb306, 1, none⟩ = some (.int .i64 t304) := (blk_cell BK306.out 1).trans rfl
               have hfz131_0 := blk_frozen BK306.out 0
               have hfz131_1 := blk_frozen BK306.out 1
               have hnb132 := NB305_310.out
               have hnc132 := NB310_305.out
               have hnb133 := NB305_314.out
               have hnc133 := NB314_305.out
               have hnb134 := NB305_318.out
               have hnc134 := NB318_305.out
               have hnb135 := NB305_322.out
               have hnc135 := NB322_305.out
               have hnb136 := NB305_332.out
               have hnc136 := NB332_305.out
               have hnb137 := NB305_336.out
               have hnc137 := NB336_305.out
               have hcz138_0 : wc.cell? ⟨gb305, 0, none⟩ = some (.int .i64 t301) := (blk_cell BK305.out 0).trans rfl
               have hcz138_1 : wc.cell? ⟨gb305, 1, none⟩ = some (.int .i64 t302) := (blk_cell BK305.out 1).trans rfl
               have hfz138_0 := blk_frozen BK305.out 0
               have hfz138_1 := blk_frozen BK305.out 1
               try go_wp2_with (first | ((with_reducible refine gate_callee (f := 6) rfl ?_); refine goesL_ (some 137) rfl rfl Try.func6 (by kernel_rfl) rfl #[.agg #[.int .i64 t303, .int .i64 t304], .agg #[.int .i64 t301, .int .i64 t302]] rfl (by (try simp only [List.map_toArray, List.map_cons, List.map_nil]); first | done | rfl | (go_simp; done) | simp) ?_; (with_reducible refine (impl_AddRatios.calls kj13 t303 t304 t301 t302 t339 t340 t341 _ A110.out).mono ?_); rintro e w139 ⟨rfl, hb⟩; refine ⟨_, rfl, ?_⟩; have n0_ := Aside0.mk (blk_below (g := gb305) (o := .cells #[.int .i64 t301, .int .i64 t302] 25 (0, 0)) (by (with_reducible repeat first | apply bN | apply bD | apply bA); exact BK305.out) hb); have n1_ := Aside0.mk (blk_below (g := gb306) (o := .cells #[.int .i64 t303, .int .i64 t304] 25 (0, 0)) (by (with_reducible repeat first | apply bN | apply bD | apply bA); exact BK306.out) hb); have n2_ := Aside0.mk (blk_below (g := gb310) (o := .cells #[.int .i64 t307, .int .i64 t308] 25 (0, 0)) (by (with_reducible repeat first | apply bN | apply bD | apply bA); exact BK310.out) hb); have n3_ := Aside0.mk (blk_below (g := gb314) (o := .cells #[.int .i64 t311, .int .i64 t312] 25 (0, 0)) (by (with_reducible repeat first | apply bN | apply bD | apply bA); exact BK314.out) hb); have n4_ := Aside0.mk (blk_below (g := gb318) (o := .cells #[.int .i64 t315, .int .i64 t316] 25 (0, 0)) (by (with_reducible repeat first | apply bN | apply bD | apply bA); exact BK318.out) hb); have n5_ := Aside0.mk (blk_below (g := gb322) (o := .cells #[.int .i64 t319, .int .i64 t320] 25 (0, 0)) (by (with_reducible repeat first | apply bN | apply bD | apply bA); exact BK322.out) hb); have n6_ := Aside0.mk (blk_below (g := gb332) (o := .cells #[.int .i64 t329, .int .i64 t330] 25 (0, 0)) (by (with_reducible repeat first | apply bN | apply bD | apply bA); exact BK332.out) hb); have n7_ := Aside0.mk (blk_below (g := gb336) (o := .cells #[.int .i64 t333, .int .i64 t334] 25 (0, 0)) (by (with_reducible repeat first | apply bN | apply bD | apply bA); exact BK336.out) hb); have n8_ := Aside0.mk (below_step (by repeat (first | (with_reducible first | exact HB.out | apply below_alloc | apply lN | apply lD | refine below_set ?_ GE305.out | refine below_set ?_ GE306.out | refine below_set ?_ GE310.out | refine below_set ?_ GE314.out | refine below_set ?_ GE318.out | refine below_set ?_ GE322.out | refine below_set ?_ GE332.out | refine below_set ?_ GE336.out) | exact HB.out)) hb); clear BK305; clear BK306; clear BK310; clear BK314; clear BK318; clear BK322; clear BK332; clear BK336; clear HB; have BK305 := n0_; have BK306 := n1_; have BK310 := n2_; have BK314 := n3_; have BK318 := n4_; have BK322 := n5_; have BK332 := n6_; have BK336 := n7_; have HB := n8_; clear n0_ n1_ n2_ n3_ n4_ n5_ n6_ n7_ n8_; (try clear hb); (try clear hb2); (try clear hk); (try clear hi)) | ((with_reducible refine gate_dst (N := 23) rfl ?_); refine box_event ?hg (N := 23) ?hd (cs := #[.int .i64 0, .int .i64 0]) (t := 25) ?hr ?_; (case hd => rfl); (case hg => rfl); (case hr => first | (go_simp; done) | (go_simp; rfl)); intro gb342 hg w140 hbox hb; have n0_ := Aside0.mk (blk_below (g := gb305) (o := .cells #[.int .i64 t301, .int .i64 t302] 25 (0, 0)) (by (with_reducible repeat first | apply bN | apply bD | apply bA); exact BK305.out) hb); have n1_ := Aside0.mk (blk_below (g := gb306) (o := .cells #[.int .i64 t303, .int .i64 t304] 25 (0, 0)) (by (with_reducible repeat first | apply bN | apply bD | apply bA); exact BK306.out) hb); have n2_ := Aside0.mk (blk_below (g := gb310) (o := .cells #[.int .i64 t307, .int .i64 t308] 25 (0, 0)) (by (with_reducible repeat first | apply bN | apply bD | apply bA); exact BK310.out) hb); have n3_ := Aside0.mk (blk_below (g := gb314) (o := .cells #[.int .i64 t311, .int .i64 t312] 25 (0, 0)) (by (with_reducible repeat first | apply bN | apply bD | apply bA); exact BK314.out) hb); have n4_ := Aside0.mk (blk_below (g := gb318) (o := .cells #[.int .i64 t315, .int .i64 t316] 25 (0, 0)) (by (with_reducible repeat first | apply bN | apply bD | apply bA); exact BK318.out) hb); have n5_ := Aside0.mk (blk_below (g := gb322) (o := .cells #[.int .i64 t319, .int .i64 t320] 25 (0, 0)) (by (with_reducible repeat first | apply bN | apply bD | apply bA); exact BK322.out) hb); have n6_ := Aside0.mk (blk_below (g := gb332) (o := .cells #[.int .i64 t329, .int .i64 t330] 25 (0, 0)) (by (with_reducible repeat first | apply bN | apply bD | apply bA); exact BK332.out) hb); have n7_ := Aside0.mk (blk_below (g := gb336) (o := .cells #[.int .i64 t333, .int .i64 t334] 25 (0, 0)) (by (with_reducible repeat first | apply bN | apply bD | apply bA); exact BK336.out) hb); have n8_ := Aside0.mk (below_step (by repeat (first | (with_reducible first | exact HB.out | apply below_alloc | apply lN | apply lD | refine below_set ?_ GE305.out | refine below_set ?_ GE306.out | refine below_set ?_ GE310.out | refine below_set ?_ GE314.out | refine below_set ?_ GE318.out | refine below_set ?_ GE322.out | refine below_set ?_ GE332.out | refine below_set ?_ GE336.out) | exact HB.out)) hb); have n9_ := Aside0.mk (hbox); have n10_ := Aside0.mk ((by rw [hg]; exact (below_size (by repeat (first | (with_reducible first | exact HB.out | apply below_alloc | apply lN | apply lD | refine below_set ?_ GE305.out | refine below_set ?_ GE306.out | refine below_set ?_ GE310.out | refine below_set ?_ GE314.out | refine below_set ?_ GE318.out | refine below_set ?_ GE322.out | refine below_set ?_ GE332.out | refine below_set ?_ GE336.out) | exact HB.out))) : w.heap.size ≤ gb342)); have n11_ := Aside0.mk ((by rw [hg]; exact (below_size (by repeat (first | (with_reducible first | exact HB.out | apply below_alloc | apply lN | apply lD | refine below_set ?_ GE305.out | refine below_set ?_ GE306.out | refine below_set ?_ GE310.out | refine below_set ?_ GE314.out | refine below_set ?_ GE318.out | refine below_set ?_ GE322.out | refine below_set ?_ GE332.out | refine below_set ?_ GE336.out) | exact HB.out))) : w.heap.size ≤ gb342)); have n12_ := Aside0.mk ((by rw [hg]; exact Nat.ne_of_lt (blk_lt (g := gb305) (o := .cells #[.int .i64 t301, .int .i64 t302] 25 (0, 0)) (by (with_reducible repeat first | apply bN | apply bD | apply bA); exact BK305.out)) : gb305 ≠ gb342)); have n13_ := Aside0.mk ((by rw [hg]; exact Nat.ne_of_gt (blk_lt (g := gb305) (o := .cells #[.int .i64 t301, .int .i64 t302] 25 (0, 0)) (by (with_reducible repeat first | apply bN | apply bD | apply bA); exact BK305.out)) : gb342 ≠ gb305)); have n14_ := Aside0.mk ((by rw [hg]; exact Nat.ne_of_lt (blk_lt (g := gb306) (o := .cells #[.int .i64 t303, .int .i64 t304] 25 (0, 0)) (by (with_reducible repeat first | apply bN | apply bD | apply bA); exact BK306.out)) : gb306 ≠ gb342)); have n15_ := Aside0.mk ((by rw [hg]; exact Nat.ne_of_gt (blk_lt (g := gb306) (o := .cells #[.int .i64 t303, .int .i64 t304] 25 (0, 0)) (by (with_reducible repeat first | apply bN | apply bD | apply bA); exact BK306.out)) : gb342 ≠ gb306)); have n16_ := Aside0.mk ((by rw [hg]; exact Nat.ne_of_lt (blk_lt (g := gb310) (o := .cells #[.int .i64 t307, .int .i64 t308] 25 (0, 0)) (by (with_reducible repeat first | apply bN | apply bD | apply bA); exact BK310.out)) : gb310 ≠ gb342)); have n17_ := Aside0.mk ((by rw [hg]; exact Nat.ne_of_gt (blk_lt (g := gb310) (o := .cells #[.int .i64 t307, .int .i64 t308] 25 (0, 0)) (by (with_reducible repeat first | apply bN | apply bD | apply bA); exact BK310.out)) : gb342 ≠ gb310)); have n18_ := Aside0.mk ((by rw [hg]; exact Nat.ne_of_lt (blk_lt (g := gb314) (o := .cells #[.int .i64 t311, .int .i64 t312] 25 (0, 0)) (by (with_reducible repeat first | apply bN | apply bD | apply bA); exact BK314.out)) : gb314 ≠ gb342)); have n19_ := Aside0.mk ((by rw [hg]; exact Nat.ne_of_gt (blk_lt (g := gb314) (o := .cells #[.int .i64 t311, .int .i64 t312] 25 (0, 0)) (by (with_reducible repeat first | apply bN | apply bD | apply bA); exact BK314.out)) : gb342 ≠ gb314)); have n20_ := Aside0.mk ((by rw [hg]; exact Nat.ne_of_lt (blk_lt (g := gb318) (o := .cells #[.int .i64 t315, .int .i64 t316] 25 (0, 0)) (by (with_reducible repeat first | apply bN | apply bD | apply bA); exact BK318.out)) : gb318 ≠ gb342)); have n21_ := Aside0.mk ((by rw [hg]; exact Nat.ne_of_gt (blk_lt (g := gb318) (o := .cells #[.int .i64 t315, .int .i64 t316] 25 (0, 0)) (by (with_reducible repeat first | apply bN | apply bD | apply bA); exact BK318.out)) : gb342 ≠ gb318)); have n22_ := Aside0.mk ((by rw [hg]; exact Nat.ne_of_lt (blk_lt (g := gb322) (o := .cells #[.int .i64 t319, .int .i64 t320] 25 (0, 0)) (by (with_reducible repeat first | apply bN | apply bD | apply bA); exact BK322.out)) : gb322 ≠ gb342)); have n23_ := Aside0.mk ((by rw [hg]; exact Nat.ne_of_gt (blk_lt (g := gb322) (o := .cells #[.int .i64 t319, .int .i64 t320] 25 (0, 0)) (by (with_reducible repeat first | apply bN | apply bD | apply bA); exact BK322.out)) : gb342 ≠ gb322)); have n24_ := Aside0.mk ((by rw [hg]; exact Nat.ne_of_lt (blk_lt (g := gb332) (o := .cells #[.int .i64 t329, .int .i64 t330] 25 (0, 0)) (by (with_reducible repeat first | apply bN | apply bD | apply bA); exact BK332.out)) : gb332 ≠ gb342)); have n25_ := Aside0.mk ((by rw [hg]; exact Nat.ne_of_gt (blk_lt (g := gb332) (o := .cells #[.int .i64 t329, .int .i64 t330] 25 (0, 0)) (by (with_reducible repeat first | apply bN | apply bD | apply bA); exact BK332.out)) : gb342 ≠ gb332)); have n26_ := Aside0.mk ((by rw [hg]; exact Nat.ne_of_lt (blk_lt (g := gb336) (o := .cells #[.int .i64 t333, .int .i64 t334] 25 (0, 0)) (by (with_reducible repeat first | apply bN | apply bD | apply bA); exact BK336.out)) : gb336 ≠ gb342)); have n27_ := Aside0.mk ((by rw [hg]; exact Nat.ne_of_gt (blk_lt (g := gb336) (o := .cells #[.int .i64 t333, .int .i64 t334] 25 (0, 0)) (by (with_reducible repeat first | apply bN | apply bD | apply bA); exact BK336.out)) : gb342 ≠ gb336)); clear BK305; clear BK306; clear BK310; clear BK314; clear BK318; clear BK322; clear BK332; clear BK336; clear HB; have BK305 := n0_; have BK306 := n1_; have BK310 := n2_; have BK314 := n3_; have BK318 := n4_; have BK322 := n5_; have BK332 := n6_; have BK336 := n7_; have HB := n8_; have BK342 := n9_; have GW342 := n10_; have GE342 := n11_; have NB305_342 := n12_; have NB342_305 := n13_; have NB306_342 := n14_; have NB342_306 := n15_; have NB310_342 := n16_; have NB342_310 := n17_; have NB314_342 := n18_; have NB342_314 := n19_; have NB318_342 := n20_; have NB342_318 := n21_; have NB322_342 := n22_; have NB342_322 := n23_; have NB332_342 := n24_; have NB342_332 := n25_; have NB336_342 := n26_; have NB342_336 := n27_; clear n0_ n1_ n2_ n3_ n4_ n5_ n6_ n7_ n8_ n9_ n10_ n11_ n12_ n13_ n14_ n15_ n16_ n17_ n18_ n19_ n20_ n21_ n22_ n23_ n24_ n25_ n26_ n27_; clear hb hbox hg; have hnb141 := NB342_305.out; have hnc141 := NB305_342.out; have hnb142 := NB342_306.out; have hnc142 := NB306_342.out; have hnb143 := NB342_310.out; have hnc143 := NB310_342.out; have hnb144 := NB342_314.out; have hnc144 := NB314_342.out; have hnb145 := NB342_318.out; have hnc145 := NB318_342.out; have hnb146 := NB342_322.out; have hnc146 := NB322_342.out; have hnb147 := NB342_332.out; have hnc147 := NB332_342.out; have hnb148 := NB342_336.out; have hnc148 := NB336_342.out; have hcz149_0 : w140.cell? ⟨gb342, 0, none⟩ = some (.int .i64 0) := (blk_cell BK342.out 0).trans rfl; have hcz149_1 : w140.cell? ⟨gb342, 1, none⟩ = some (.int .i64 0) := (blk_cell BK342.out 1).trans rfl; have hfz149_0 := blk_frozen BK342.out 0; have hfz149_1 := blk_frozen BK342.out 1; have hcz150_0 : w140.cell? ⟨gb306, 0, none⟩ = some (.int .i64 t303) := (blk_cell BK306.out 0).trans rfl; have hcz150_1 : w140.cell? ⟨gb306, 1, none⟩ = some (.int .i64 t304) := (blk_cell BK306.out 1).trans rfl; have hfz150_0 := blk_frozen BK306.out 0; have hfz150_1 := blk_frozen BK306.out 1; have hcz151_0 : w140.cell? ⟨gb305, 0, none⟩ = some (.int .i64 t301) := (blk_cell BK305.out 0).trans rfl; have hcz151_1 : w140.cell? ⟨gb305, 1, none⟩ = some (.int .i64 t302) := (blk_cell BK305.out 1).trans rfl; have hfz151_0 := blk_frozen BK305.out 0; have hfz151_1 := blk_frozen BK305.out 1) | ((with_reducible refine gate_callee (f := 8) rfl ?_); refine goesL_ (some 143) rfl rfl Try.func8 (by kernel_rfl) rfl #[.agg #[.int .i64 t303, .int .i64 t304], .agg #[.int .i64 t301, .int .i64 t302]] rfl (by (try simp only [List.map_toArray, List.map_cons, List.map_nil]); first | done | rfl | (go_simp; done) | simp) ?_; (with_reducible refine (impl_MultiplyRatios.calls kj13 t303 t304 t301 t302 t343 t344 t345 _ A111.out).mono ?_); rintro e w152 ⟨rfl, hb⟩; refine ⟨_, rfl, ?_⟩; have n0_ := Aside0.mk (blk_below (g := gb305) (o := .cells #[.int .i64 t301, .int .i64 t302] 25 (0, 0)) (by (with_reducible repeat first | apply bN | apply bD | apply bA); refine blk_far ?_ NB305_342.out _; (with_reducible repeat first | apply bN | apply bD | apply bA); refine blk_far ?_ NB305_342.out _; (with_reducible repeat first | apply bN | apply bD | apply bA); exact BK305.out) hb); have n1_ := Aside0.mk (blk_below (g := gb306) (o := .cells #[.int .i64 t303, .int .i64 t304] 25 (0, 0)) (by (with_reducible repeat first | apply bN | apply bD | apply bA); refine blk_far ?_ NB306_342.out _; (with_reducible repeat first | apply bN | apply bD | apply bA); refine blk_far ?_ NB306_342.out _; (with_reducible repeat first | apply bN | apply bD | apply bA); exact BK306.out) hb); have n2_ := Aside0.mk (blk_below (g := gb310) (o := .cells #[.int .i64 t307, .int .i64 t308] 25 (0, 0)) (by (with_reducible repeat first | apply bN | apply bD | apply bA); refine blk_far ?_ NB310_342.out _; (with_reducible repeat first | apply bN | apply bD | apply bA); refine blk_far ?_ NB310_342.out _; (with_reducible repeat first | apply bN | apply bD | apply bA); exact BK310.out) hb); have n3_ := Aside0.mk (blk_below (g := gb314) (o := .cells #[.int .i64 t311, .int .i64 t312] 25 (0, 0)) (by (with_reducible repeat first | apply bN | apply bD | apply bA); refine blk_far ?_ NB314_342.out _; (with_reducible repeat first | apply bN | apply bD | apply bA); refine blk_far ?_ NB314_342.out _; (with_reducible repeat first | apply bN | apply bD | apply bA); exact BK314.out) hb); have n4_ := Aside0.mk (blk_below (g := gb318) (o := .cells #[.int .i64 t315, .int .i64 t316] 25 (0, 0)) (by (with_reducible repeat first | apply bN | apply bD | apply bA); refine blk_far ?_ NB318_342.out _; (with_reducible repeat first | apply bN | apply bD | apply bA); refine blk_far ?_ NB318_342.out _; (with_reducible repeat first | apply bN | apply bD | apply bA); exact BK318.out) hb); have n5_ := Aside0.mk (blk_below (g := gb322) (o := .cells #[.int .i64 t319, .int .i64 t320] 25 (0, 0)) (by (with_reducible repeat first | apply bN | apply bD | apply bA); refine blk_far ?_ NB322_342.out _; (with_reducible repeat first | apply bN | apply bD | apply bA); refine blk_far ?_ NB322_342.out _; (with_reducible repeat first | apply bN | apply bD | apply bA); exact BK322.out) hb); have n6_ := Aside0.mk (blk_below (g := gb332) (o := .cells #[.int .i64 t329, .int .i64 t330] 25 (0, 0)) (by (with_reducible repeat first | apply bN | apply bD | apply bA); refine blk_far ?_ NB332_342.out _; (with_reducible repeat first | apply bN | apply bD | apply bA); refine blk_far ?_ NB332_342.out _; (with_reducible repeat first | apply bN | apply bD | apply bA); exact BK332.out) hb); have n7_ := Aside0.mk (blk_below (g := gb336) (o := .cells #[.int .i64 t333, .int .i64 t334] 25 (0, 0)) (by (with_reducible repeat first | apply bN | apply bD | apply bA); refine blk_far ?_ NB336_342.out _; (with_reducible repeat first | apply bN | apply bD | apply bA); refine blk_far ?_ NB336_342.out _; (with_reducible repeat first | apply bN | apply bD | apply bA); exact BK336.out) hb); have n8_ := Aside0.mk (blk_below (g := gb342) (o := .cells #[.int .i64 t339, .int .i64 t340] 25 (0, 0)) (by (with_reducible repeat first | apply bN | apply bD | apply bA); refine blk_put (cs := #[.int .i64 t339, .int .i64 0]) ?_ 1 _ rfl; (with_reducible repeat first | apply bN | apply bD | apply bA); refine blk_put (cs := #[.int .i64 0, .int .i64 0]) ?_ 0 _ rfl; (with_reducible repeat first | apply bN | apply bD | apply bA); exact BK342.out) hb); have n9_ := Aside0.mk (below_step (by repeat (first | (with_reducible first | exact HB.out | apply below_alloc | apply lN | apply lD | refine below_set ?_ GE305.out | refine below_set ?_ GE306.out | refine below_set ?_ GE310.out | refine below_set ?_ GE314.out | refine below_set ?_ GE318.out | refine below_set ?_ GE322.out | refine below_set ?_ GE332.out | refine below_set ?_ GE336.out | refine below_set ?_ GE342.out) | exact HB.out)) hb); clear BK305; clear BK306; clear BK310; clear BK314; clear BK318; clear BK322; clear BK332; clear BK336; clear BK342; clear HB; have BK305 := n0_; have BK306 := n1_; have BK310 := n2_; have BK314 := n3_; have BK318 := n4_; have BK322 := n5_; have BK332 := n6_; have BK336 := n7_; have BK342 := n8_; have HB := n9_; clear n0_ n1_ n2_ n3_ n4_ n5_ n6_ n7_ n8_ n9_; (try clear hb); (try clear hb2); (try clear hk); (try clear hi)) | ((with_reducible refine gate_dst (N := 25) rfl ?_); refine box_event ?hg (N := 25) ?hd (cs := #[.int .i64 0, .int .i64 0]) (t := 25) ?hr ?_; (case hd => rfl); (case hg => rfl); (case hr => first | (go_simp; done) | (go_simp; rfl)); intro gb346 hg w153 hbox hb; have n0_ := Aside0.mk (blk_below (g := gb305) (o := .cells #[.int .i64 t301, .int .i64 t302] 25 (0, 0)) (by (with_reducible repeat first | apply bN | apply bD | apply bA); exact BK305.out) hb); have n1_ := Aside0.mk (blk_below (g := gb306) (o := .cells #[.int .i64 t303, .int .i64 t304] 25 (0, 0)) (by (with_reducible repeat first | apply bN | apply bD | apply bA); exact BK306.out) hb); have n2_ := Aside0.mk (blk_below (g := gb310) (o := .cells #[.int .i64 t307, .int .i64 t308] 25 (0, 0)) (by (with_reducible repeat first | apply bN | apply bD | apply bA); exact BK310.out) hb); have n3_ := Aside0.mk (blk_below (g := gb314) (o := .cells #[.int .i64 t311, .int .i64 t312] 25 (0, 0)) (by (with_reducible repeat first | apply bN | apply bD | apply bA); exact BK314.out) hb); have n4_ := Aside0.mk (blk_below (g := gb318) (o := .cells #[.int .i64 t315, .int .i64 t316] 25 (0, 0)) (by (with_reducible repeat first | apply bN | apply bD | apply bA); exact BK318.out) hb); have n5_ := Aside0.mk (blk_below (g := gb322) (o := .cells #[.int .i64 t319, .int .i64 t320] 25 (0, 0)) (by (with_reducible repeat first | apply bN | apply bD | apply bA); exact BK322.out) hb); have n6_ := Aside0.mk (blk_below (g := gb332) (o := .cells #[.int .i64 t329, .int .i64 t330] 25 (0, 0)) (by (with_reducible repeat first | apply bN | apply bD | apply bA); exact BK332.out) hb); have n7_ := Aside0.mk (blk_below (g := gb336) (o := .cells #[.int .i64 t333, .int .i64 t334] 25 (0, 0)) (by (with_reducible repeat first | apply bN | apply bD | apply bA); exact BK336.out) hb); have n8_ := Aside0.mk (blk_below (g := gb342) (o := .cells #[.int .i64 t339, .int .i64 t340] 25 (0, 0)) (by (with_reducible repeat first | apply bN | apply bD | apply bA); exact BK342.out) hb); have n9_ := Aside0.mk (below_step (by repeat (first | (with_reducible first | exact HB.out | apply below_alloc | apply lN | apply lD | refine below_set ?_ GE305.out | refine below_set ?_ GE306.out | refine below_set ?_ GE310.out | refine below_set ?_ GE314.out | refine below_set ?_ GE318.out | refine below_set ?_ GE322.out | refine below_set ?_ GE332.out | refine below_set ?_ GE336.out | refine below_set ?_ GE342.out) | exact HB.out)) hb); have n10_ := Aside0.mk (hbox); have n11_ := Aside0.mk ((by rw [hg]; exact (below_size (by repeat (first | (with_reducible first | exact HB.out | apply below_alloc | apply lN | apply lD | refine below_set ?_ GE305.out | refine below_set ?_ GE306.out | refine below_set ?_ GE310.out | refine below_set ?_ GE314.out | refine below_set ?_ GE318.out | refine below_set ?_ GE322.out | refine below_set ?_ GE332.out | refine below_set ?_ GE336.out | refine below_set ?_ GE342.out) | exact HB.out))) : w.heap.size ≤ gb346)); have n12_ := Aside0.mk ((by rw [hg]; exact (below_size (by repeat (first | (with_reducible first | exact HB.out | apply below_alloc | apply lN | apply lD | refine below_set ?_ GE305.out | refine below_set ?_ GE306.out | refine below_set ?_ GE310.out | refine below_set ?_ GE314.out | refine below_set ?_ GE318.out | refine below_set ?_ GE322.out | refine below_set ?_ GE332.out | refine below_set ?_ GE336.out | refine below_set ?_ GE342.out) | exact HB.out))) : w.heap.size ≤ gb346)); have n13_ := Aside0.mk ((by rw [hg]; exact Nat.ne_of_lt (blk_lt (g := gb305) (o := .cells #[.int .i64 t301, .int .i64 t302] 25 (0, 0)) (by (with_reducible repeat first | apply bN | apply bD | apply bA); exact BK305.out)) : gb305 ≠ gb346)); have n14_ := Aside0.mk ((by rw [hg]; exact Nat.ne_of_gt (blk_lt (g := gb305) (o := .cells #[.int .i64 t301, .int .i64 t302] 25 (0, 0)) (by (with_reducible repeat first | apply bN | apply bD | apply bA); exact BK305.out)) : gb346 ≠ gb305)); have n15_ := Aside0.mk ((by rw [hg]; exact Nat.ne_of_lt (blk_lt (g := gb306) (o := .cells #[.int .i64 t303, .int .i64 t304] 25 (0, 0)) (by (with_reducible repeat first | apply bN | apply bD | apply bA); exact BK306.out)) : gb306 ≠ gb346)); have n16_ := Aside0.mk ((by rw [hg]; exact Nat.ne_of_gt (blk_lt (g := gb306) (o := .cells #[.int .i64 t303, .int .i64 t304] 25 (0, 0)) (by (with_reducible repeat first | apply bN | apply bD | apply bA); exact BK306.out)) : gb346 ≠ gb306)); have n17_ := Aside0.mk ((by rw [hg]; exact Nat.ne_of_lt (blk_lt (g := gb310) (o := .cells #[.int .i64 t307, .int .i64 t308] 25 (0, 0)) (by (with_reducible repeat first | apply bN | apply bD | apply bA); exact BK310.out)) : gb310 ≠ gb346)); have n18_ := Aside0.mk ((by rw [hg]; exact Nat.ne_of_gt (blk_lt (g := gb310) (o := .cells #[.int .i64 t307, .int .i64 t308] 25 (0, 0)) (by (with_reducible repeat first | apply bN | apply bD | apply bA); exact BK310.out)) : gb346 ≠ gb310)); have n19_ := Aside0.mk ((by rw [hg]; exact Nat.ne_of_lt (blk_lt (g := gb314) (o := .cells #[.int .i64 t311, .int .i64 t312] 25 (0, 0)) (by (with_reducible repeat first | apply bN | apply bD | apply bA); exact BK314.out)) : gb314 ≠ gb346)); have n20_ := Aside0.mk ((by rw [hg]; exact Nat.ne_of_gt (blk_lt (g := gb314) (o := .cells #[.int .i64 t311, .int .i64 t312] 25 (0, 0)) (by (with_reducible repeat first | apply bN | apply bD | apply bA); exact BK314.out)) : gb346 ≠ gb314)); have n21_ := Aside0.mk ((by rw [hg]; exact Nat.ne_of_lt (blk_lt (g := gb318) (o := .cells #[.int .i64 t315, .int .i64 t316] 25 (0, 0)) (by (with_reducible repeat first | apply bN | apply bD | apply bA); exact BK318.out)) : gb318 ≠ gb346)); have n22_ := Aside0.mk ((by rw [hg]; exact Nat.ne_of_gt (blk_lt (g := gb318) (o := .cells #[.int .i64 t315, .int .i64 t316] 25 (0, 0)) (by (with_reducible repeat first | apply bN | apply bD | apply bA); exact BK318.out)) : gb346 ≠ gb318)); have n23_ := Aside0.mk ((by rw [hg]; exact Nat.ne_of_lt (blk_lt (g := gb322) (o := .cells #[.int .i64 t319, .int .i64 t320] 25 (0, 0)) (by (with_reducible repeat first | apply bN | apply bD | apply bA); exact BK322.out)) : gb322 ≠ gb346)); have n24_ := Aside0.mk ((by rw [hg]; exact Nat.ne_of_gt (blk_lt (g := gb322) (o := .cells #[.int .i64 t319, .int .i64 t320] 25 (0, 0)) (by (with_reducible repeat first | apply bN | apply bD | apply bA); exact BK322.out)) : gb346 ≠ gb322)); have n25_ := Aside0.mk ((by rw [hg]; exact Nat.ne_of_lt (blk_lt (g := gb332) (o := .cells #[.int .i64 t329, .int .i64 t330] 25 (0, 0)) (by (with_reducible repeat first | apply bN | apply bD | apply bA); exact BK332.out)) : gb332 ≠ gb346)); have n26_ := Aside0.mk ((by rw [hg]; exact Nat.ne_of_gt (blk_lt (g := gb332) (o := .cells #[.int .i64 t329, .int .i64 t330] 25 (0, 0)) (by (with_reducible repeat first | apply bN | apply bD | apply bA); exact BK332.out)) : gb346 ≠ gb332)); have n27_ := Aside0.mk ((by rw [hg]; exact Nat.ne_of_lt (blk_lt (g := gb336) (o := .cells #[.int .i64 t333, .int .i64 t334] 25 (0, 0)) (by (with_reducible repeat first | apply bN | apply bD | apply bA); exact BK336.out)) : gb336 ≠ gb346)); have n28_ := Aside0.mk ((by rw [hg]; exact Nat.ne_of_gt (blk_lt (g := gb336) (o := .cells #[.int .i64 t333, .int .i64 t334] 25 (0, 0)) (by (with_reducible repeat first | apply bN | apply bD | apply bA); exact BK336.out)) : gb346 ≠ gb336)); have n29_ := Aside0.mk ((by rw [hg]; exact Nat.ne_of_lt (blk_lt (g := gb342) (o := .cells #[.int .i64 t339, .int .i64 t340] 25 (0, 0)) (by (with_reducible repeat first | apply bN | apply bD | apply bA); exact BK342.out)) : gb342 ≠ gb346)); have n30_ := Aside0.mk ((by rw [hg]; exact Nat.ne_of_gt (blk_lt (g := gb342) (o := .cells #[.int .i64 t339, .int .i64 t340] 25 (0, 0)) (by (with_reducible repeat first | apply bN | apply bD | apply bA); exact BK342.out)) : gb346 ≠ gb342)); clear BK305; clear BK306; clear BK310; clear BK314; clear BK318; clear BK322; clear BK332; clear BK336; clear BK342; clear HB; have BK305 := n0_; have BK306 := n1_; have BK310 := n2_; have BK314 := n3_; have BK318 := n4_; have BK322 := n5_; have BK332 := n6_; have BK336 := n7_; have BK342 := n8_; have HB := n9_; have BK346 := n10_; have GW346 := n11_; have GE346 := n12_; have NB305_346 := n13_; have NB346_305 := n14_; have NB306_346 := n15_; have NB346_306 := n16_; have NB310_346 := n17_; have NB346_310 := n18_; have NB314_346 := n19_; have NB346_314 := n20_; have NB318_346 := n21_; have NB346_318 := n22_; have NB322_346 := n23_; have NB346_322 := n24_; have NB332_346 := n25_; have NB346_332 := n26_; have NB336_346 := n27_; have NB346_336 := n28_; have NB342_346 := n29_; have NB346_342 := n30_; clear n0_ n1_ n2_ n3_ n4_ n5_ n6_ n7_ n8_ n9_ n10_ n11_ n12_ n13_ n14_ n15_ n16_ n17_ n18_ n19_ n20_ n21_ n22_ n23_ n24_ n25_ n26_ n27_ n28_ n29_ n30_; clear hb hbox hg; have hnb154 := NB346_305.out; have hnc154 := NB305_346.out; have hnb155 := NB346_306.out; have hnc155 := NB306_346.out; have hnb156 := NB346_310.out; have hnc156 := NB310_346.out; have hnb157 := NB346_314.out; have hnc157 := NB314_346.out; have hnb158 := NB346_318.out; have hnc158 := NB318_346.out; have hnb159 := NB346_322.out; have hnc159 := NB322_346.out; have hnb160 := NB346_332.out; have hnc160 := NB332_346.out; have hnb161 := NB346_336.out; have hnc161 := NB336_346.out; have hnb162 := NB346_342.out; have hnc162 := NB342_346.out; have hcz163_0 : w153.cell? ⟨gb346, 0, none⟩ = some (.int .i64 0) := (blk_cell BK346.out 0).trans rfl; have hcz163_1 : w153.cell? ⟨gb346, 1, none⟩ = some (.int .i64 0) := (blk_cell BK346.out 1).trans rfl; have hfz163_0 := blk_frozen BK346.out 0; have hfz163_1 := blk_frozen BK346.out 1; have hcz164_0 : w153.cell? ⟨gb306, 0, none⟩ = some (.int .i64 t303) := (blk_cell BK306.out 0).trans rfl; have hcz164_1 : w153.cell? ⟨gb306, 1, none⟩ = some (.int .i64 t304) := (blk_cell BK306.out 1).trans rfl; have hfz164_0 := blk_frozen BK306.out 0; have hfz164_1 := blk_frozen BK306.out 1; have hcz165_0 : w153.cell? ⟨gb305, 0, none⟩ = some (.int .i64 t301) := (blk_cell BK305.out 0).trans rfl; have hcz165_1 : w153.cell? ⟨gb305, 1, none⟩ = some (.int .i64 t302) := (blk_cell BK305.out 1).trans rfl; have hfz165_0 := blk_frozen BK305.out 0; have hfz165_1 := blk_frozen BK305.out 1) | ((with_reducible refine gate_callee (f := 10) rfl ?_); refine goesL_ (some 149) rfl rfl Try.func10 (by kernel_rfl) rfl #[.agg #[.int .i64 t303, .int .i64 t304], .agg #[.int .i64 t301, .int .i64 t302]] rfl (by (try simp only [List.map_toArray, List.map_cons, List.map_nil]); first | done | rfl | (go_simp; done) | simp) ?_; (with_reducible refine (impl_CompareRatios.calls kj13 t303 t304 t301 t302 t347 t348 _ A112.out).mono ?_); rintro e w166 ⟨rfl, hb⟩; refine ⟨_, rfl, ?_⟩; have n0_ := Aside0.mk (blk_below (g := gb305) (o := .cells #[.int .i64 t301, .int .i64 t302] 25 (0, 0)) (by (with_reducible repeat first | apply bN | apply bD | apply bA); refine blk_far ?_ NB305_346.out _; (with_reducible repeat first | apply bN | apply bD | apply bA); refine blk_far ?_ NB305_346.out _; (with_reducible repeat first | apply bN | apply bD | apply bA); exact BK305.out) hb); have n1_ := Aside0.mk (blk_below (g := gb306) (o := .cells #[.int .i64 t303, .int .i64 t304] 25 (0, 0)) (by (with_reducible repeat first | apply bN | apply bD | apply bA); refine blk_far ?_ NB306_346.out _; (with_reducible repeat first | apply bN | apply bD | apply bA); refine blk_far ?_ NB306_346.out _; (with_reducible repeat first | apply bN | apply bD | apply bA); exact BK306.out) hb); have n2_ := Aside0.mk (blk_below (g := gb310) (o := .cells #[.int .i64 t307, .int .i64 t308] 25 (0, 0)) (by (with_reducible repeat first | apply bN | apply bD | apply bA); refine blk_far ?_ NB310_346.out _; (with_reducible repeat first | apply bN | apply bD | apply bA); refine blk_far ?_ NB310_346.out _; (with_reducible repeat first | apply bN | apply bD | apply bA); exact BK310.out) hb); have n3_ := Aside0.mk (blk_below (g := gb314) (o := .cells #[.int .i64 t311, .int .i64 t312] 25 (0, 0)) (by (with_reducible repeat first | apply bN | apply bD | apply bA); refine blk_far ?_ NB314_346.out _; (with_reducible repeat first | apply bN | apply bD | apply bA); refine blk_far ?_ NB314_346.out _; (with_reducible repeat first | apply bN | apply bD | apply bA); exact BK314.out) hb); have n4_ := Aside0.mk (blk_below (g := gb318) (o := .cells #[.int .i64 t315, .int .i64 t316] 25 (0, 0)) (by (with_reducible repeat first | apply bN | apply bD | apply bA); refine blk_far ?_ NB318_346.out _; (with_reducible repeat first | apply bN | apply bD | apply bA); refine blk_far ?_ NB318_346.out _; (with_reducible repeat first | apply bN | apply bD | apply bA); exact BK318.out) hb); have n5_ := Aside0.mk (blk_below (g := gb322) (o := .cells #[.int .i64 t319, .int .i64 t320] 25 (0, 0)) (by (with_reducible repeat first | apply bN | apply bD | apply bA); refine blk_far ?_ NB322_346.out _; (with_reducible repeat first | apply bN | apply bD | apply bA); refine blk_far ?_ NB322_346.out _; (with_reducible repeat first | apply bN | apply bD | apply bA); exact BK322.out) hb); have n6_ := Aside0.mk (blk_below (g := gb332) (o := .cells #[.int .i64 t329, .int .i64 t330] 25 (0, 0)) (by (with_reducible repeat first | apply bN | apply bD | apply bA); refine blk_far ?_ NB332_346.out _; (with_reducible repeat first | apply bN | apply bD | apply bA); refine blk_far ?_ NB332_346.out _; (with_reducible repeat first | apply bN | apply bD | apply bA); exact BK332.out) hb); have n7_ := Aside0.mk (blk_below (g := gb336) (o := .cells #[.int .i64 t333, .int .i64 t334] 25 (0, 0)) (by (with_reducible repeat first | apply bN | apply bD | apply bA); refine blk_far ?_ NB336_346.out _; (with_reducible repeat first | apply bN | apply bD | apply bA); refine blk_far ?_ NB336_346.out _; (with_reducible repeat first | apply bN | apply bD | apply bA); exact BK336.out) hb); have n8_ := Aside0.mk (blk_below (g := gb342) (o := .cells #[.int .i64 t339, .int .i64 t340] 25 (0, 0)) (by (with_reducible repeat first | apply bN | apply bD | apply bA); refine blk_far ?_ NB342_346.out _; (with_reducible repeat first | apply bN | apply bD | apply bA); refine blk_far ?_ NB342_346.out _; (with_reducible repeat first | apply bN | apply bD | apply bA); exact BK342.out) hb); have n9_ := Aside0.mk (blk_below (g := gb346) (o := .cells #[.int .i64 t343, .int .i64 t344] 25 (0, 0)) (by (with_reducible repeat first | apply bN | apply bD | apply bA); refine blk_put (cs := #[.int .i64 t343, .int .i64 0]) ?_ 1 _ rfl; (with_reducible repeat first | apply bN | apply bD | apply bA); refine blk_put (cs := #[.int .i64 0, .int .i64 0]) ?_ 0 _ rfl; (with_reducible repeat first | apply bN | apply bD | apply bA); exact BK346.out) hb); have n10_ := Aside0.mk (below_step (by repeat (first | (with_reducible first | exact HB.out | apply below_alloc | apply lN | apply lD | refine below_set ?_ GE305.out | refine below_set ?_ GE306.out | refine below_set ?_ GE310.out | refine below_set ?_ GE314.out | refine below_set ?_ GE318.out | refine below_set ?_ GE322.out | refine below_set ?_ GE332.out | refine below_set ?_ GE336.out | refine below_set ?_ GE342.out | refine below_set ?_ GE346.out) | exact HB.out)) hb); clear BK305; clear BK306; clear BK310; clear BK314; clear BK318; clear BK322; clear BK332; clear BK336; clear BK342; clear BK346; clear HB; have BK305 := n0_; have BK306 := n1_; have BK310 := n2_; have BK314 := n3_; have BK318 := n4_; have BK322 := n5_; have BK332 := n6_; have BK336 := n7_; have BK342 := n8_; have BK346 := n9_; have HB := n10_; clear n0_ n1_ n2_ n3_ n4_ n5_ n6_ n7_ n8_ n9_ n10_; (try clear hb); (try clear hb2); (try clear hk); (try clear hi); have hcz167_0 : w166.cell? ⟨gb342, 0, none⟩ = some (.int .i64 t339) := (blk_cell BK342.out 0).trans rfl; have hcz167_1 : w166.cell? ⟨gb342, 1, none⟩ = some (.int .i64 t340) := (blk_cell BK342.out 1).trans rfl; have hfz167_0 := blk_frozen BK342.out 0; have hfz167_1 := blk_frozen BK342.out 1; have hnb168 := NB310_314.out; have hnc168 := NB314_310.out; have hnb169 := NB310_318.out; have hnc169 := NB318_310.out; have hnb170 := NB310_322.out; have hnc170 := NB322_310.out; have hnb171 := NB310_332.out; have hnc171 := NB332_310.out; have hnb172 := NB310_336.out; have hnc172 := NB336_310.out; have hcz173_0 : w166.cell? ⟨gb310, 0, none⟩ = some (.int .i64 t307) := (blk_cell BK310.out 0).trans rfl; have hcz173_1 : w166.cell? ⟨gb310, 1, none⟩ = some (.int .i64 t308) := (blk_cell BK310.out 1).trans rfl; have hfz173_0 := blk_frozen BK310.out 0; have hfz173_1 := blk_frozen BK310.out 1; have hcz174_0 : w166.cell? ⟨gb346, 0, none⟩ = some (.int .i64 t343) := (blk_cell BK346.out 0).trans rfl; have hcz174_1 : w166.cell? ⟨gb346, 1, none⟩ = some (.int .i64 t344) := (blk_cell BK346.out 1).trans rfl; have hfz174_0 := blk_frozen BK346.out 0; have hfz174_1 := blk_frozen BK346.out 1; have hnb175 := NB318_314.out; have hnc175 := NB314_318.out; have hnb176 := NB318_322.out; have hnc176 := NB322_318.out; have hnb177 := NB318_332.out; have hnc177 := NB332_318.out; have hnb178 := NB318_336.out; have hnc178 := NB336_318.out; have hcz179_0 : w166.cell? ⟨gb318, 0, none⟩ = some (.int .i64 t315) := (blk_cell BK318.out 0).trans rfl; have hcz179_1 : w166.cell? ⟨gb318, 1, none⟩ = some (.int .i64 t316) := (blk_cell BK318.out 1).trans rfl; have hfz179_0 := blk_frozen BK318.out 0; have hfz179_1 := blk_frozen BK318.out 1))
               have n0_ := Aside0.mk (blk_drew BK305.out)
               have n1_ := Aside0.mk (blk_drew BK306.out)
               have n2_ := Aside0.mk (blk_drew BK310.out)
               have n3_ := Aside0.mk (blk_drew BK314.out)
               have n4_ := Aside0.mk (blk_drew BK318.out)
               have n5_ := Aside0.mk (blk_drew BK322.out)
               have n6_ := Aside0.mk (blk_drew BK332.out)
               have n7_ := Aside0.mk (blk_drew BK336.out)
               have n8_ := Aside0.mk (blk_drew BK342.out)
               have n9_ := Aside0.mk (blk_drew BK346.out)
               have n10_ := Aside0.mk (below_drew1 HB.out)
               clear BK305
               clear BK306
               clear BK310
               clear BK314
               clear BK318
               clear BK322
               clear BK332
               clear BK336
               clear BK342
               clear BK346
               clear HB
               have BK305 := n0_
               have BK306 := n1_
               have BK310 := n2_
               have BK314 := n3_
               have BK318 := n4_
               have BK322 := n5_
               have BK332 := n6_
               have BK336 := n7_
               have BK342 := n8_
               have BK346 := n9_
               have HB := n10_
               clear n0_ n1_ n2_ n3_ n4_ n5_ n6_ n7_ n8_ n9_ n10_
               refine start_ (n := 25) (S := fun w' => w'.cell? ⟨gb332, 0, none⟩ = some (.int .i64 t329) ∧ w'.cell? ⟨gb332, 1, none⟩ = some (.int .i64 t330)) (ds := []) #[false, false, false, false, false, false, false, false, false, false, false, false, false, false, false, false, false, false, false, false, false, false, false, false, false] (by kernel_rfl) rfl rfl ⟨(blk_cell BK332.out 0).trans rfl, (blk_cell BK332.out 1).trans rfl⟩ (fun hHeld => ?_); refine with_tabW laws_FnFractions.tab20 laws_FnFractions.bits20 (fun HT_ HW_ => ?_)
               generalize w166.drew = w180 at BK305 BK306 BK310 BK314 BK318 BK322 BK332 BK336 BK342 BK346 HB hHeld ⊢
               refine pure_ (i := 0) (N := some 181) (v := ?_) (a' := ?_) #[true, false, false, false, false, false, false, false, false, false, false, false, false, false, false, false, false, false, false, false, false, false, false, false, false] rfl rfl (any_of HT_.out (by kernel_rfl)) (fun _ _ _ h => h) (Or.inl ⟨by rfl, ?_⟩) ?_ ?_
               rotate_left
               ·
                intro w'
                go_simp
                with_reducible rfl
               rotate_left
               ·
                simp only [Act.put, List.setIfInBounds_toArray, List.set_cons_zero, List.set_cons_succ, i64_w, i32_w]
                rfl
               refine pure_ (i := 1) (N := some 182) (v := ?_) (a' := ?_) #[true, true, false, false, false, false, false, false, false, false, false, false, false, false, false, false, false, false, false, false, false, false, false, false, false] rfl rfl (any_of HT_.out (by kernel_rfl)) (fun _ _ _ h => h) (Or.inl ⟨by rfl, ?_⟩) ?_ ?_
               rotate_left
               ·
                intro w'
                go_simp
                with_reducible rfl
               rotate_left
               ·
                simp only [Act.put, List.setIfInBounds_toArray, List.set_cons_zero, List.set_cons_succ, i64_w, i32_w]
                rfl
               refine pure_ (i := 2) (N := some 183) (v := ?_) (a' := ?_) #[true, true, true, false, false, false, false, false, false, false, false, false, false, false, false, false, false, false, false, false, false, false, false, false, false] rfl rfl (any_of HT_.out (by kernel_rfl)) (fun _ _ _ h => h) (Or.inl ⟨by rfl, ?_⟩) ?_ ?_
               rotate_left
               ·
                intro w'
                go_simp
                with_reducible rfl
               rotate_left
               ·
                simp only [Act.put, List.setIfInBounds_toArray, List.set_cons_zero, List.set_cons_succ, i64_w, i32_w]
                rfl
               refine take_ (i := 3) (N := some 184) (v := ?_) (a' := ?_) #[true, true, true, true, false, false, false, false, false, false, false, false, false, false, false, false, false, false, false, false, false, false, false, false, false] rfl rfl (take_ofW HT_.out HW_.out (by kernel_rfl)) (fun _ _ _ h => h) (Or.inl ⟨by rfl, ?_⟩) hHeld ?_ ?_
               rotate_left
               ·
                rintro w' ⟨s0, s1⟩
                go_simp
                with_reducible rfl
               rotate_left
               ·
                simp only [Act.put, List.setIfInBounds_toArray, List.set_cons_zero, List.set_cons_succ, i64_w, i32_w]
                rfl
               refine one_ (i := 4) (N := some 185) #[true, true, true, true, true, false, false, false, false, false, false, false, false, false, false, false, false, false, false, false, false, false, false, false, false] rfl rfl (one_of HT_.out (by kernel_rfl)) (by decide) (fun K hK => ?_)
               refine goes_ Try.func15 (by kernel_rfl) rfl #[.agg #[.int .i64 t329, .int .i64 t330]] (by rfl) rfl rfl (by (try simp only [List.map_toArray, List.map_cons, List.map_nil]); first | done | rfl | (go_simp; done) | simp) ?_
               with_reducible refine (impl_IsRatio.calls kj13 t329 t330 true _ A120.out).mono ?_
               rintro e w181 ⟨rfl, hb⟩
               refine ⟨_, rfl, ?_⟩
               have n0_ := Aside0.mk (blk_below (g := gb305) (o := .cells #[.int .i64 t301, .int .i64 t302] 25 (0, 0)) (by (with_reducible repeat first | apply bN | apply bD | apply bA); exact BK305.out) hb)
               have n1_ := Aside0.mk (blk_below (g := gb306) (o := .cells #[.int .i64 t303, .int .i64 t304] 25 (0, 0)) (by (with_reducible repeat first | apply bN | apply bD | apply bA); exact BK306.out) hb)
               have n2_ := Aside0.mk (blk_below (g := gb310) (o := .cells #[.int .i64 t307, .int .i64 t308] 25 (0, 0)) (by (with_reducible repeat first | apply bN | apply bD | apply bA); exact BK310.out) hb)
               have n3_ := Aside0.mk (blk_below (g := gb314) (o := .cells #[.int .i64 t311, .int .i64 t312] 25 (0, 0)) (by (with_reducible repeat first | apply bN | apply bD | apply bA); exact BK314.out) hb)
               have n4_ := Aside0.mk (blk_below (g := gb318) (o := .cells #[.int .i64 t315, .int .i64 t316] 25 (0, 0)) (by (with_reducible repeat first | apply bN | apply bD | apply bA); exact BK318.out) hb)
               have n5_ := Aside0.mk (blk_below (g := gb322) (o := .cells #[.int .i64 t319, .int .i64 t320] 25 (0, 0)) (by (with_reducible repeat first | apply bN | apply bD | apply bA); exact BK322.out) hb)
               have n6_ := Aside0.mk (blk_below (g := gb332) (o := .cells #[.int .i64 t329, .int .i64 t330] 25 (0, 0)) (by (with_reducible repeat first | apply bN | apply bD | apply bA); exact BK332.out) hb)
               have n7_ := Aside0.mk (blk_below (g := gb336) (o := .cells #[.int .i64 t333, .int .i64 t334] 25 (0, 0)) (by (with_reducible repeat first | apply bN | apply bD | apply bA); exact BK336.out) hb)
               have n8_ := Aside0.mk (blk_below (g := gb342) (o := .cells #[.int .i64 t339, .int .i64 t340] 25 (0, 0)) (by (with_reducible repeat first | apply bN | apply bD | apply bA); exact BK342.out) hb)
               have n9_ := Aside0.mk (blk_below (g := gb346) (o := .cells #[.int .i64 t343, .int .i64 t344] 25 (0, 0)) (by (with_reducible repeat first | apply bN | apply bD | apply bA); exact BK346.out) hb)
               have n10_ := Aside0.mk (below_step (by repeat (first | (with_reducible first | exact HB.out | apply below_alloc | apply lN | apply lD | refine below_set ?_ GE305.out | refine below_set ?_ GE306.out | refine below_set ?_ GE310.out | refine below_set ?_ GE314.out | refine below_set ?_ GE318.out | refine below_set ?_ GE322.out | refine below_set ?_ GE332.out | refine below_set ?_ GE336.out | refine below_set ?_ GE342.out | refine below_set ?_ GE346.out) | exact HB.out)) hb)
               clear BK305
               clear BK306
               clear BK310
               clear BK314
               clear BK318
               clear BK322
               clear BK332
               clear BK336
               clear BK342
               clear BK346
               clear HB
               have BK305 := n0_
               have BK306 := n1_
               have BK310 := n2_
               have BK314 := n3_
               have BK318 := n4_
               have BK322 := n5_
               have BK332 := n6_
               have BK336 := n7_
               have BK342 := n8_
               have BK346 := n9_
               have HB := n10_
               clear n0_ n1_ n2_ n3_ n4_ n5_ n6_ n7_ n8_ n9_ n10_
               (try clear hb)
               (try clear hb2)
               (try clear hk)
               (try clear hi)
               refine hK.out _ _ ⟨(blk_cell BK332.out 0).trans rfl, (blk_cell BK332.out 1).trans rfl⟩ (fun hHeld => ?_)
               clear hK K
               refine norm_ (a' := ?_) ?_ ?_
               rotate_left
               ·
                show Act.put _ (some 185) _ = _
                simp only [Act.put, List.setIfInBounds_toArray, List.set_cons_zero, List.set_cons_succ, i64_w, i32_w]
                rfl
               refine pure_ (i := 5) (N := some 186) (v := ?_) (a' := ?_) #[true, true, true, true, true, true, false, false, false, false, false, false, false, false, false, false, false, false, false, false, false, false, false, false, false] rfl rfl (any_of HT_.out (by kernel_rfl)) (fun _ _ _ h => h) (Or.inl ⟨by rfl, ?_⟩) ?_ ?_
               rotate_left
               ·
                intro w'
                go_simp
                with_reducible rfl
               rotate_left
               ·
                simp only [Act.put, List.setIfInBounds_toArray, List.set_cons_zero, List.set_cons_succ, i64_w, i32_w]
                rfl
               refine pure_ (i := 6) (N := some 187) (v := ?_) (a' := ?_) #[true, true, true, true, true, true, true, false, false, false, false, false, false, false, false, false, false, false, false, false, false, false, false, false, false] rfl rfl (any_of HT_.out (by kernel_rfl)) (fun _ _ _ h => h) (Or.inl ⟨by rfl, ?_⟩) ?_ ?_
               rotate_left
               ·
                intro w'
                go_simp
                with_reducible rfl
               rotate_left
               ·
                simp only [Act.put, List.setIfInBounds_toArray, List.set_cons_zero, List.set_cons_succ, i64_w, i32_w]
                rfl
               refine pure_ (i := 7) (N := some 188) (v := ?_) (a' := ?_) #[true, true, true, true, true, true, true, true, false, false, false, false, false, false, false, false, false, false, false, false, false, false, false, false, false] rfl rfl (any_of HT_.out (by kernel_rfl)) (fun _ _ _ h => h) (Or.inl ⟨by rfl, ?_⟩) ?_ ?_
               rotate_left
               ·
                intro w'
                go_simp
                with_reducible rfl
               rotate_left
               ·
                simp only [Act.put, List.setIfInBounds_toArray, List.set_cons_zero, List.set_cons_succ, i64_w, i32_w]
                rfl
               refine take_ (i := 8) (N := some 189) (v := ?_) (a' := ?_) #[true, true, true, true, true, true, true, true, true, false, false, false, false, false, false, false, false, false, false, false, false, false, false, false, false] rfl rfl (take_ofW HT_.out HW_.out (by kernel_rfl)) (fun _ _ _ h => h) (Or.inl ⟨by rfl, ?_⟩) hHeld ?_ ?_
               rotate_left
               ·
                rintro w' ⟨s0, s1⟩
                go_simp
                with_reducible rfl
               rotate_left
               ·
                simp only [Act.put, List.setIfInBounds_toArray, List.set_cons_zero, List.set_cons_succ, i64_w, i32_w]
                rfl
               refine pure_ (i := 9) (N := some 190) (v := ?_) (a' := ?_) #[true, true, true, true, true, true, true, true, true, true, false, false, false, false, false, false, false, false, false, false, false, false, false, false, false] rfl rfl (any_of HT_.out (by kernel_rfl)) (fun _ _ _ h => h) (Or.inl ⟨by rfl, ?_⟩) ?_ ?_
               rotate_left
               ·
                intro w'
                go_simp
                with_reducible rfl
               rotate_left
               ·
                simp only [Act.put, List.setIfInBounds_toArray, List.set_cons_zero, List.set_cons_succ, i64_w, i32_w]
                rfl
               refine pure_ (i := 10) (N := some 191) (v := ?_) (a' := ?_) #[true, true, true, true, true, true, true, true, true, true, true, false, false, false, false, false, false, false, false, false, false, false, false, false, false] rfl rfl (any_of HT_.out (by kernel_rfl)) (fun _ _ _ h => h) (Or.inl ⟨by rfl, ?_⟩) ?_ ?_
               rotate_left
               ·
                intro w'
                go_simp
                with_reducible rfl
               rotate_left
               ·
                simp only [Act.put, List.setIfInBounds_toArray, List.set_cons_zero, List.set_cons_succ, i64_w, i32_w]
                rfl
               refine pure_ (i := 11) (N := some 192) (v := ?_) (a' := ?_) #[true, true, true, true, true, true, true, true, true, true, true, true, false, false, false, false, false, false, false, false, false, false, false, false, false] rfl rfl (any_of HT_.out (by kernel_rfl)) (fun _ _ _ h => h) (Or.inl ⟨by rfl, ?_⟩) ?_ ?_
               rotate_left
               ·
                intro w'
                go_simp
                with_reducible rfl
               rotate_left
               ·
                simp only [Act.put, List.setIfInBounds_toArray, List.set_cons_zero, List.set_cons_succ, i64_w, i32_w]
                rfl
               refine pure_ (i := 12) (N := some 193) (v := ?_) (a' := ?_) #[true, true, true, true, true, true, true, true, true, true, true, true, true, false, false, false, false, false, false, false, false, false, false, false, false] rfl rfl (any_of HT_.out (by kernel_rfl)) (fun _ _ _ h => h) (Or.inl ⟨by rfl, ?_⟩) ?_ ?_
               rotate_left
               ·
                intro w'
                go_simp
                with_reducible rfl
               rotate_left
               ·
                simp only [Act.put, List.setIfInBounds_toArray, List.set_cons_zero, List.set_cons_succ, i64_w, i32_w]
                rfl
               refine pure_ (i := 13) (N := some 194) (v := ?_) (a' := ?_) #[true, true, true, true, true, true, true, true, true, true, true, true, true, true, false, false, false, false, false, false, false, false, false, false, false] rfl rfl (any_of HT_.out (by kernel_rfl)) (fun _ _ _ h => h) (Or.inl ⟨by rfl, ?_⟩) ?_ ?_
               rotate_left
               ·
                intro w'
                go_simp
                with_reducible rfl
               rotate_left
               ·
                simp only [Act.put, List.setIfInBounds_toArray, List.set_cons_zero, List.set_cons_succ, i64_w, i32_w]
                rfl
               refine pure_ (i := 14) (N := some 195) (v := ?_) (a' := ?_) #[true, true, true, true, true, true, true, true, true, true, true, true, true, true, true, false, false, false, false, false, false, false, false, false, false] rfl rfl (any_of HT_.out (by kernel_rfl)) (fun _ _ _ h => h) (Or.inl ⟨by rfl, ?_⟩) ?_ ?_
               rotate_left
               ·
                intro w'
                go_simp
                with_reducible rfl
               rotate_left
               ·
                simp only [Act.put, List.setIfInBounds_toArray, List.set_cons_zero, List.set_cons_succ, i64_w, i32_w]
                rfl
               refine pure_ (i := 17) (N := some 198) (v := ?_) (a' := ?_) #[true, true, true, true, true, true, true, true, true, true, true, true, true, true, true, false, false, true, false, false, false, false, false, false, false] rfl rfl (any_of HT_.out (by kernel_rfl)) (fun _ _ _ h => h) (Or.inl ⟨by rfl, ?_⟩) ?_ ?_
               rotate_left
               ·
                intro w'
                go_simp
                with_reducible rfl
               rotate_left
               ·
                simp only [Act.put, List.setIfInBounds_toArray, List.set_cons_zero, List.set_cons_succ, i64_w, i32_w]
                rfl
               refine pure_ (i := 20) (N := some 201) (v := ?_) (a' := ?_) #[true, true, true, true, true, true, true, true, true, true, true, true, true, true, true, false, false, true, false, false, true, false, false, false, false] rfl rfl (any_of HT_.out (by kernel_rfl)) (fun _ _ _ h => h) (Or.inl ⟨by rfl, ?_⟩) ?_ ?_
               rotate_left
               ·
                intro w'
                go_simp
                with_reducible rfl
               rotate_left
               ·
                simp only [Act.put, List.setIfInBounds_toArray, List.set_cons_zero, List.set_cons_succ, i64_w, i32_w]
                rfl
               refine take_ (i := 15) (N := some 196) (v := ?_) (a' := ?_) #[true, true, true, true, true, true, true, true, true, true, true, true, true, true, true, true, false, true, false, false, true, false, false, false, false] rfl rfl (take_ofW HT_.out HW_.out (by kernel_rfl)) (fun _ _ _ h => h) (Or.inl ⟨by rfl, ?_⟩) hHeld ?_ ?_
               rotate_left
               ·
                rintro w' ⟨s0, s1⟩
                go_simp
                with_reducible rfl
               rotate_left
               ·
                simp only [Act.put, List.setIfInBounds_toArray, List.set_cons_zero, List.set_cons_succ, i64_w, i32_w]
                rfl
               refine pure_ (i := 16) (N := some 197) (v := ?_) (a' := ?_) #[true, true, true, true, true, true, true, true, true, true, true, true, true, true, true, true, true, true, false, false, true, false, false, false, false] rfl rfl (any_of HT_.out (by kernel_rfl)) (fun _ _ _ h => h) (Or.inl ⟨by rfl, ?_⟩) ?_ ?_
               rotate_left
               ·
                intro w'
                go_simp
                with_reducible rfl
               rotate_left
               ·
                simp only [Act.put, List.setIfInBounds_toArray, List.set_cons_zero, List.set_cons_succ, i64_w, i32_w]
                rfl
               refine take_ (i := 18) (N := some 199) (v := ?_) (a' := ?_) #[true, true, true, true, true, true, true, true, true, true, true, true, true, true, true, true, true, true, true, false, true, false, false, false, false] rfl rfl (take_ofW HT_.out HW_.out (by kernel_rfl)) (fun _ _ _ h => h) (Or.inl ⟨by rfl, ?_⟩) hHeld ?_ ?_
               rotate_left
               ·
                rintro w' ⟨s0, s1⟩
                go_simp
                with_reducible rfl
               rotate_left
               ·
                simp only [Act.put, List.setIfInBounds_toArray, List.set_cons_zero, List.set_cons_succ, i64_w, i32_w]
                rfl
               refine pure_ (i := 19) (N := some 200) (v := ?_) (a' := ?_) #[true, true, true, true, true, true, true, true, true, true, true, true, true, true, true, true, true, true, true, true, true, false, false, false, false] rfl rfl (any_of HT_.out (by kernel_rfl)) (fun _ _ _ h => h) (Or.inl ⟨by rfl, ?_⟩) ?_ ?_
               rotate_left
               ·
                intro w'
                go_simp
                with_reducible rfl
               rotate_left
               ·
                simp only [Act.put, List.setIfInBounds_toArray, List.set_cons_zero, List.set_cons_succ, i64_w, i32_w]
                rfl
               refine pure_ (i := 21) (N := some 202) (v := ?_) (a' := ?_) #[true, true, true, true, true, true, true, true, true, true, true, true, true, true, true, true, true, true, true, true, true, true, false, false, false] rfl rfl (any_of HT_.out (by kernel_rfl)) (fun _ _ _ h => h) (Or.inl ⟨by rfl, ?_⟩) ?_ ?_
               rotate_left
               ·
                intro w'
                go_simp
                with_reducible rfl
               rotate_left
               ·
                simp only [Act.put, List.setIfInBounds_toArray, List.set_cons_zero, List.set_cons_succ, i64_w, i32_w]
                rfl
               refine pure_ (i := 22) (N := some 203) (v := ?_) (a' := ?_) #[true, true, true, true, true, true, true, true, true, true, true, true, true, true, true, true, true, true, true, true, true, true, true, false, false] rfl rfl (any_of HT_.out (by kernel_rfl)) (fun _ _ _ h => h) (Or.inl ⟨by rfl, ?_⟩) ?_ ?_
               rotate_left
               ·
                intro w'
                go_simp
                with_reducible rfl
               rotate_left
               ·
                simp only [Act.put, List.setIfInBounds_toArray, List.set_cons_zero, List.set_cons_succ, i64_w, i32_w]
                rfl
               refine pure_ (i := 23) (N := some 204) (v := ?_) (a' := ?_) #[true, true, true, true, true, true, true, true, true, true, true, true, true, true, true, true, true, true, true, true, true, true, true, true, false] rfl rfl (any_of HT_.out (by kernel_rfl)) (fun _ _ _ h => h) (Or.inl ⟨by rfl, ?_⟩) ?_ ?_
               rotate_left
               ·
                intro w'
                go_simp
                with_reducible rfl
               rotate_left
               ·
                simp only [Act.put, List.setIfInBounds_toArray, List.set_cons_zero, List.set_cons_succ, i64_w, i32_w]
                rfl
               refine pure_ (i := 24) (N := some 2) (v := ?_) (a' := ?_) #[true, true, true, true, true, true, true, true, true, true, true, true, true, true, true, true, true, true, true, true, true, true, true, true, true] rfl rfl (any_of HT_.out (by kernel_rfl)) (fun _ _ _ h => h) (Or.inl ⟨by rfl, ?_⟩) ?_ ?_
               rotate_left
               ·
                intro w'
                go_simp
                with_reducible rfl
               rotate_left
               ·
                simp only [Act.put, List.setIfInBounds_toArray, List.set_cons_zero, List.set_cons_succ, i64_w, i32_w]
                rfl
               refine done_ (done_of HT_.out (by kernel_rfl)) ?_
               try go_wp2
               go_ret
               exact ⟨by first | rfl | (simp [errW_none, errW_some] <;> rfl) | (simp [*, errW_none, errW_some] <;> rfl), by repeat (first | (with_reducible first | exact HB.out | apply below_alloc | apply lN | apply lD | refine below_set ?_ GE305.out | refine below_set ?_ GE306.out | refine below_set ?_ GE310.out | refine below_set ?_ GE314.out | refine below_set ?_ GE318.out | refine below_set ?_ GE322.out | refine below_set ?_ GE332.out | refine below_set ?_ GE336.out | refine below_set ?_ GE342.out | refine below_set ?_ GE346.out) | exact HB.out)⟩
              ·
               rw [if_neg c123] at H
               have c123b0 : ((Int.tmod t328 t330) == 0) = false := beq_eq_false_iff_ne.mpr c123
               have c123b1 : ((Int.tmod t328 t330) != 0) = true := bne_iff_ne.mpr c123
               obtain rfl := Option.some.inj H
               exact absurd hr_.out (by decide)
            ·
             replace c121 := Bool.eq_false_iff.mpr c121
             subst c121
             have H1 : (some false) = some r := by rw [if_neg (show ¬ (false = true) by decide)] at H; exact H
             clear H
             have H := H1
             clear H1
             obtain rfl := Option.some.inj H
             exact absurd hr_.out (by decide)
           ·
            rw [if_neg c119] at H
            have c119b0 : (t331 == 0) = false := beq_eq_false_iff_ne.mpr c119
            have c119b1 : (t331 != 0) = true := bne_iff_ne.mpr c119
            obtain rfl := Option.some.inj H
            simp only [Option.some.injEq, Prod.mk.injEq] at H
            obtain ⟨rfl⟩ := H
            have hnb182 := NB306_305.out
            have hnc182 := NB305_306.out
            have hnb183 := NB306_310.out
            have hnc183 := NB310_306.out
            have hnb184 := NB306_314.out
            have hnc184 := NB314_306.out
            have hnb185 := NB306_318.out
            have hnc185 := NB318_306.out
            have hnb186 := NB306_322.out
            have hnc186 := NB322_306.out
            have hnb187 := NB306_332.out
            have hnc187 := NB332_306.out
            have hnb188 := NB306_336.out
            have hnc188 := NB336_306.out
            have hcz189_0 : wc.cell? ⟨gb306, 0, none⟩ = some (.int .i64 t303) := (blk_cell BK306.out 0).trans rfl
            have hcz189_1 : wc.cell? ⟨gb306, 1, none⟩ = some (.int .i64 t304) := (blk_cell BK306.out 1).trans rfl
            have hfz189_0 := blk_frozen BK306.out 0
            have hfz189_1 := blk_frozen BK306.out 1
            have hnb190 := NB305_310.out
            have hnc190 := NB310_305.out
            have hnb191 := NB305_314.out
            have hnc191 := NB314_305.out
            have hnb192 := NB305_318.out
            have hnc192 := NB318_305.out
            have hnb193 := NB305_322.out
            have hnc193 := NB322_305.out
            have hnb194 := NB305_332.out
            have hnc194 := NB332_305.out
            have hnb195 := NB305_336.out
            have hnc195 := NB336_305.out
            have hcz196_0 : wc.cell? ⟨gb305, 0, none⟩ = some (.int .i64 t301) := (blk_cell BK305.out 0).trans rfl
            have hcz196_1 : wc.cell? ⟨gb305, 1, none⟩ = some (.int .i64 t302) := (blk_cell BK305.out 1).trans rfl
            have hfz196_0 := blk_frozen BK305.out 0
            have hfz196_1 := blk_frozen BK305.out 1
            try go_wp2_with (first | ((with_reducible refine gate_callee (f := 6) rfl ?_); refine goesL_ (some 137) rfl rfl Try.func6 (by kernel_rfl) rfl #[.agg #[.int .i64 t303, .int .i64 t304], .agg #[.int .i64 t301, .int .i64 t302]] rfl (by (try simp only [List.map_toArray, List.map_cons, List.map_nil]); first | done | rfl | (go_simp; done) | simp) ?_; (with_reducible refine (impl_AddRatios.calls kj13 t303 t304 t301 t302 t339 t340 t341 _ A110.out).mono ?_); rintro e w197 ⟨rfl, hb⟩; refine ⟨_, rfl, ?_⟩; have n0_ := Aside0.mk (blk_below (g := gb305) (o := .cells #[.int .i64 t301, .int .i64 t302] 25 (0, 0)) (by (with_reducible repeat first | apply bN | apply bD | apply bA); exact BK305.out) hb); have n1_ := Aside0.mk (blk_below (g := gb306) (o := .cells #[.int .i64 t303, .int .i64 t304] 25 (0, 0)) (by (with_reducible repeat first | apply bN | apply bD | apply bA); exact BK306.out) hb); have n2_ := Aside0.mk (blk_below (g := gb310) (o := .cells #[.int .i64 t307, .int .i64 t308] 25 (0, 0)) (by (with_reducible repeat first | apply bN | apply bD | apply bA); exact BK310.out) hb); have n3_ := Aside0.mk (blk_below (g := gb314) (o := .cells #[.int .i64 t311, .int .i64 t312] 25 (0, 0)) (by (with_reducible repeat first | apply bN | apply bD | apply bA); exact BK314.out) hb); have n4_ := Aside0.mk (blk_below (g := gb318) (o := .cells #[.int .i64 t315, .int .i64 t316] 25 (0, 0)) (by (with_reducible repeat first | apply bN | apply bD | apply bA); exact BK318.out) hb); have n5_ := Aside0.mk (blk_below (g := gb322) (o := .cells #[.int .i64 t319, .int .i64 t320] 25 (0, 0)) (by (with_reducible repeat first | apply bN | apply bD | apply bA); exact BK322.out) hb); have n6_ := Aside0.mk (blk_below (g := gb332) (o := .cells #[.int .i64 t329, .int .i64 t330] 25 (0, 0)) (by (with_reducible repeat first | apply bN | apply bD | apply bA); exact BK332.out) hb); have n7_ := Aside0.mk (blk_below (g := gb336) (o := .cells #[.int .i64 t333, .int .i64 t334] 25 (0, 0)) (by (with_reducible repeat first | apply bN | apply bD | apply bA); exact BK336.out) hb); have n8_ := Aside0.mk (below_step (by repeat (first | (with_reducible first | exact HB.out | apply below_alloc | apply lN | apply lD | refine below_set ?_ GE305.out | refine below_set ?_ GE306.out | refine below_set ?_ GE310.out | refine below_set ?_ GE314.out | refine below_set ?_ GE318.out | refine below_set ?_ GE322.out | refine below_set ?_ GE332.out | refine below_set ?_ GE336.out) | exact HB.out)) hb); clear BK305; clear BK306; clear BK310; clear BK314; clear BK318; clear BK322; clear BK332; clear BK336; clear HB; have BK305 := n0_; have BK306 := n1_; have BK310 := n2_; have BK314 := n3_; have BK318 := n4_; have BK322 := n5_; have BK332 := n6_; have BK336 := n7_; have HB := n8_; clear n0_ n1_ n2_ n3_ n4_ n5_ n6_ n7_ n8_; (try clear hb); (try clear hb2); (try clear hk); (try clear hi)) | ((with_reducible refine gate_dst (N := 23) rfl ?_); refine box_event ?hg (N := 23) ?hd (cs := #[.int .i64 0, .int .i64 0]) (t := 25) ?hr ?_; (case hd => rfl); (case hg => rfl); (case hr => first | (go_simp; done) | (go_simp; rfl)); intro gb342 hg w198 hbox hb; have n0_ := Aside0.mk (blk_below (g := gb305) (o := .cells #[.int .i64 t301, .int .i64 t302] 25 (0, 0)) (by (with_reducible repeat first | apply bN | apply bD | apply bA); exact BK305.out) hb); have n1_ := Aside0.mk (blk_below (g := gb306) (o := .cells #[.int .i64 t303, .int .i64 t304] 25 (0, 0)) (by (with_reducible repeat first | apply bN | apply bD | apply bA); exact BK306.out) hb); have n2_ := Aside0.mk (blk_below (g := gb310) (o := .cells #[.int .i64 t307, .int .i64 t308] 25 (0, 0)) (by (with_reducible repeat first | apply bN | apply bD | apply bA); exact BK310.out) hb); have n3_ := Aside0.mk (blk_below (g := gb314) (o := .cells #[.int .i64 t311, .int .i64 t312] 25 (0, 0)) (by (with_reducible repeat first | apply bN | apply bD | apply bA); exact BK314.out) hb); have n4_ := Aside0.mk (blk_below (g := gb318) (o := .cells #[.int .i64 t315, .int .i64 t316] 25 (0, 0)) (by (with_reducible repeat first | apply bN | apply bD | apply bA); exact BK318.out) hb); have n5_ := Aside0.mk (blk_below (g := gb322) (o := .cells #[.int .i64 t319, .int .i64 t320] 25 (0, 0)) (by (with_reducible repeat first | apply bN | apply bD | apply bA); exact BK322.out) hb); have n6_ := Aside0.mk (blk_below (g := gb332) (o := .cells #[.int .i64 t329, .int .i64 t330] 25 (0, 0)) (by (with_reducible repeat first | apply bN | apply bD | apply bA); exact BK332.out) hb); have n7_ := Aside0.mk (blk_below (g := gb336) (o := .cells #[.int .i64 t333, .int .i64 t334] 25 (0, 0)) (by (with_reducible repeat first | apply bN | apply bD | apply bA); exact BK336.out) hb); have n8_ := Aside0.mk (below_step (by repeat (first | (with_reducible first | exact HB.out | apply below_alloc | apply lN | apply lD | refine below_set ?_ GE305.out | refine below_set ?_ GE306.out | refine below_set ?_ GE310.out | refine below_set ?_ GE314.out | refine below_set ?_ GE318.out | refine below_set ?_ GE322.out | refine below_set ?_ GE332.out | refine below_set ?_ GE336.out) | exact HB.out)) hb); have n9_ := Aside0.mk (hbox); have n10_ := Aside0.mk ((by rw [hg]; exact (below_size (by repeat (first | (with_reducible first | exact HB.out | apply below_alloc | apply lN | apply lD | refine below_set ?_ GE305.out | refine below_set ?_ GE306.out | refine below_set ?_ GE310.out | refine below_set ?_ GE314.out | refine below_set ?_ GE318.out | refine below_set ?_ GE322.out | refine below_set ?_ GE332.out | refine below_set ?_ GE336.out) | exact HB.out))) : w.heap.size ≤ gb342)); have n11_ := Aside0.mk ((by rw [hg]; exact (below_size (by repeat (first | (with_reducible first | exact HB.out | apply below_alloc | apply lN | apply lD | refine below_set ?_ GE305.out | refine below_set ?_ GE306.out | refine below_set ?_ GE310.out | refine below_set ?_ GE314.out | refine below_set ?_ GE318.out | refine below_set ?_ GE322.out | refine below_set ?_ GE332.out | refine below_set ?_ GE336.out) | exact HB.out))) : w.heap.size ≤ gb342)); have n12_ := Aside0.mk ((by rw [hg]; exact Nat.ne_of_lt (blk_lt (g := gb305) (o := .cells #[.int .i64 t301, .int .i64 t302] 25 (0, 0)) (by (with_reducible repeat first | apply bN | apply bD | apply bA); exact BK305.out)) : gb305 ≠ gb342)); have n13_ := Aside0.mk ((by rw [hg]; exact Nat.ne_of_gt (blk_lt (g := gb305) (o := .cells #[.int .i64 t301, .int .i64 t302] 25 (0, 0)) (by (with_reducible repeat first | apply bN | apply bD | apply bA); exact BK305.out)) : gb342 ≠ gb305)); have n14_ := Aside0.mk ((by rw [hg]; exact Nat.ne_of_lt (blk_lt (g := gb306) (o := .cells #[.int .i64 t303, .int .i64 t304] 25 (0, 0)) (by (with_reducible repeat first | apply bN | apply bD | apply bA); exact BK306.out)) : gb306 ≠ gb342)); have n15_ := Aside0.mk ((by rw [hg]; exact Nat.ne_of_gt (blk_lt (g := gb306) (o := .cells #[.int .i64 t303, .int .i64 t304] 25 (0, 0)) (by (with_reducible repeat first | apply bN | apply bD | apply bA); exact BK306.out)) : gb342 ≠ gb306)); have n16_ := Aside0.mk ((by rw [hg]; exact Nat.ne_of_lt (blk_lt (g := gb310) (o := .cells #[.int .i64 t307, .int .i64 t308] 25 (0, 0)) (by (with_reducible repeat first | apply bN | apply bD | apply bA); exact BK310.out)) : gb310 ≠ gb342)); have n17_ := Aside0.mk ((by rw [hg]; exact Nat.ne_of_gt (blk_lt (g := gb310) (o := .cells #[.int .i64 t307, .int .i64 t308] 25 (0, 0)) (by (with_reducible repeat first | apply bN | apply bD | apply bA); exact BK310.out)) : gb342 ≠ gb310)); have n18_ := Aside0.mk ((by rw [hg]; exact Nat.ne_of_lt (blk_lt (g := gb314) (o := .cells #[.int .i64 t311, .int .i64 t312] 25 (0, 0)) (by (with_reducible repeat first | apply bN | apply bD | apply bA); exact BK314.out)) : gb314 ≠ gb342)); have n19_ := Aside0.mk ((by rw [hg]; exact Nat.ne_of_gt (blk_lt (g := gb314) (o := .cells #[.int .i64 t311, .int .i64 t312] 25 (0, 0)) (by (with_reducible repeat first | apply bN | apply bD | apply bA); exact BK314.out)) : gb342 ≠ gb314)); have n20_ := Aside0.mk ((by rw [hg]; exact Nat.ne_of_lt (blk_lt (g := gb318) (o := .cells #[.int .i64 t315, .int .i64 t316] 25 (0, 0)) (by (with_reducible repeat first | apply bN | apply bD | apply bA); exact BK318.out)) : gb318 ≠ gb342)); have n21_ := Aside0.mk ((by rw [hg]; exact Nat.ne_of_gt (blk_lt (g := gb318) (o := .cells #[.int .i64 t315, .int .i64 t316] 25 (0, 0)) (by (with_reducible repeat first | apply bN | apply bD | apply bA); exact BK318.out)) : gb342 ≠ gb318)); have n22_ := Aside0.mk ((by rw [hg]; exact Nat.ne_of_lt (blk_lt (g := gb322) (o := .cells #[.int .i64 t319, .int .i64 t320] 25 (0, 0)) (by (with_reducible repeat first | apply bN | apply bD | apply bA); exact BK322.out)) : gb322 ≠ gb342)); have n23_ := Aside0.mk ((by rw [hg]; exact Nat.ne_of_gt (blk_lt (g := gb322) (o := .cells #[.int .i64 t319, .int .i64 t320] 25 (0, 0)) (by (with_reducible repeat first | apply bN | apply bD | apply bA); exact BK322.out)) : gb342 ≠ gb322)); have n24_ := Aside0.mk ((by rw [hg]; exact Nat.ne_of_lt (blk_lt (g := gb332) (o := .cells #[.int .i64 t329, .int .i64 t330] 25 (0, 0)) (by (with_reducible repeat first | apply bN | apply bD | apply bA); exact BK332.out)) : gb332 ≠ gb342)); have n25_ := Aside0.mk ((by rw [hg]; exact Nat.ne_of_gt (blk_lt (g := gb332) (o := .cells #[.int .i64 t329, .int .i64 t330] 25 (0, 0)) (by (with_reducible repeat first | apply bN | apply bD | apply bA); exact BK332.out)) : gb342 ≠ gb332)); have n26_ := Aside0.mk ((by rw [hg]; exact Nat.ne_of_lt (blk_lt (g := gb336) (o := .cells #[.int .i64 t333, .int .i64 t334] 25 (0, 0)) (by (with_reducible repeat first | apply bN | apply bD | apply bA); exact BK336.out)) : gb336 ≠ gb342)); have n27_ := Aside0.mk ((by rw [hg]; exact Nat.ne_of_gt (blk_lt (g := gb336) (o := .cells #[.int .i64 t333, .int .i64 t334] 25 (0, 0)) (by (with_reducible repeat first | apply bN | apply bD | apply bA); exact BK336.out)) : gb342 ≠ gb336)); clear BK305; clear BK306; clear BK310; clear BK314; clear BK318; clear BK322; clear BK332; clear BK336; clear HB; have BK305 := n0_; have BK306 := n1_; have BK310 := n2_; have BK314 := n3_; have BK318 := n4_; have BK322 := n5_; have BK332 := n6_; have BK336 := n7_; have HB := n8_; have BK342 := n9_; have GW342 := n10_; have GE342 := n11_; have NB305_342 := n12_; have NB342_305 := n13_; have NB306_342 := n14_; have NB342_306 := n15_; have NB310_342 := n16_; have NB342_310 := n17_; have NB314_342 := n18_; have NB342_314 := n19_; have NB318_342 := n20_; have NB342_318 := n21_; have NB322_342 := n22_; have NB342_322 := n23_; have NB332_342 := n24_; have NB342_332 := n25_; have NB336_342 := n26_; have NB342_336 := n27_; clear n0_ n1_ n2_ n3_ n4_ n5_ n6_ n7_ n8_ n9_ n10_ n11_ n12_ n13_ n14_ n15_ n16_ n17_ n18_ n19_ n20_ n21_ n22_ n23_ n24_ n25_ n26_ n27_; clear hb hbox hg; have hnb199 := NB342_305.out; have hnc199 := NB305_342.out; have hnb200 := NB342_306.out; have hnc200 := NB306_342.out; have hnb201 := NB342_310.out; have hnc201 := NB310_342.out; have hnb202 := NB342_314.out; have hnc202 := NB314_342.out; have hnb203 := NB342_318.out; have hnc203 := NB318_342.out; have hnb204 := NB342_322.out; have hnc204 := NB322_342.out; have hnb205 := NB342_332.out; have hnc205 := NB332_342.out; have hnb206 := NB342_336.out; have hnc206 := NB336_342.out; have hcz207_0 : w198.cell? ⟨gb342, 0, none⟩ = some (.int .i64 0) := (blk_cell BK342.out 0).trans rfl; have hcz207_1 : w198.cell? ⟨gb342, 1, none⟩ = some (.int .i64 0) := (blk_cell BK342.out 1).trans rfl; have hfz207_0 := blk_frozen BK342.out 0; have hfz207_1 := blk_frozen BK342.out 1; have hcz208_0 : w198.cell? ⟨gb306, 0, none⟩ = some (.int .i64 t303) := (blk_cell BK306.out 0).trans rfl; have hcz208_1 : w198.cell? ⟨gb306, 1, none⟩ = some (.int .i64 t304) := (blk_cell BK306.out 1).trans rfl; have hfz208_0 := blk_frozen BK306.out 0; have hfz208_1 := blk_frozen BK306.out 1; have hcz209_0 : w198.cell? ⟨gb305, 0, none⟩ = some (.int .i64 t301) := (blk_cell BK305.out 0).trans rfl; have hcz209_1 : w198.cell? ⟨gb305, 1, none⟩ = some (.int .i64 t302) := (blk_cell BK305.out 1).trans rfl; have hfz209_0 := blk_frozen BK305.out 0; have hfz209_1 := blk_frozen BK305.out 1) | ((with_reducible refine gate_callee (f := 8) rfl ?_); refine goesL_ (some 143) rfl rfl Try.func8 (by kernel_rfl) rfl #[.agg #[.int .i64 t303, .int .i64 t304], .agg #[.int .i64 t301, .int .i64 t302]] rfl (by (try simp only [List.map_toArray, List.map_cons, List.map_nil]); first | done | rfl | (go_simp; done) | simp) ?_; (with_reducible refine (impl_MultiplyRatios.calls kj13 t303 t304 t301 t302 t343 t344 t345 _ A111.out).mono ?_); rintro e w210 ⟨rfl, hb⟩; refine ⟨_, rfl, ?_⟩; have n0_ := Aside0.mk (blk_below (g := gb305) (o := .cells #[.int .i64 t301, .int .i64 t302] 25 (0, 0)) (by (with_reducible repeat first | apply bN | apply bD | apply bA); refine blk_far ?_ NB305_342.out _; (with_reducible repeat first | apply bN | apply bD | apply bA); refine blk_far ?_ NB305_342.out _; (with_reducible repeat first | apply bN | apply bD | apply bA); exact BK305.out) hb); have n1_ := Aside0.mk (blk_below (g := gb306) (o := .cells #[.int .i64 t303, .int .i64 t304] 25 (0, 0)) (by (with_reducible repeat first | apply bN | apply bD | apply bA); refine blk_far ?_ NB306_342.out _; (with_reducible repeat first | apply bN | apply bD | apply bA); refine blk_far ?_ NB306_342.out _; (with_reducible repeat first | apply bN | apply bD | apply bA); exact BK306.out) hb); have n2_ := Aside0.mk (blk_below (g := gb310) (o := .cells #[.int .i64 t307, .int .i64 t308] 25 (0, 0)) (by (with_reducible repeat first | apply bN | apply bD | apply bA); refine blk_far ?_ NB310_342.out _; (with_reducible repeat first | apply bN | apply bD | apply bA); refine blk_far ?_ NB310_342.out _; (with_reducible repeat first | apply bN | apply bD | apply bA); exact BK310.out) hb); have n3_ := Aside0.mk (blk_below (g := gb314) (o := .cells #[.int .i64 t311, .int .i64 t312] 25 (0, 0)) (by (with_reducible repeat first | apply bN | apply bD | apply bA); refine blk_far ?_ NB314_342.out _; (with_reducible repeat first | apply bN | apply bD | apply bA); refine blk_far ?_ NB314_342.out _; (with_reducible repeat first | apply bN | apply bD | apply bA); exact BK314.out) hb); have n4_ := Aside0.mk (blk_below (g := gb318) (o := .cells #[.int .i64 t315, .int .i64 t316] 25 (0, 0)) (by (with_reducible repeat first | apply bN | apply bD | apply bA); refine blk_far ?_ NB318_342.out _; (with_reducible repeat first | apply bN | apply bD | apply bA); refine blk_far ?_ NB318_342.out _; (with_reducible repeat first | apply bN | apply bD | apply bA); exact BK318.out) hb); have n5_ := Aside0.mk (blk_below (g := gb322) (o := .cells #[.int .i64 t319, .int .i64 t320] 25 (0, 0)) (by (with_reducible repeat first | apply bN | apply bD | apply bA); refine blk_far ?_ NB322_342.out _; (with_reducible repeat first | apply bN | apply bD | apply bA); refine blk_far ?_ NB322_342.out _; (with_reducible repeat first | apply bN | apply bD | apply bA); exact BK322.out) hb); have n6_ := Aside0.mk (blk_below (g := gb332) (o := .cells #[.int .i64 t329, .int .i64 t330] 25 (0, 0)) (by (with_reducible repeat first | apply bN | apply bD | apply bA); refine blk_far ?_ NB332_342.out _; (with_reducible repeat first | apply bN | apply bD | apply bA); refine blk_far ?_ NB332_342.out _; (with_reducible repeat first | apply bN | apply bD | apply bA); exact BK332.out) hb); have n7_ := Aside0.mk (blk_below (g := gb336) (o := .cells #[.int .i64 t333, .int .i64 t334] 25 (0, 0)) (by (with_reducible repeat first | apply bN | apply bD | apply bA); refine blk_far ?_ NB336_342.out _; (with_reducible repeat first | apply bN | apply bD | apply bA); refine blk_far ?_ NB336_342.out _; (with_reducible repeat first | apply bN | apply bD | apply bA); exact BK336.out) hb); have n8_ := Aside0.mk (blk_below (g := gb342) (o := .cells #[.int .i64 t339, .int .i64 t340] 25 (0, 0)) (by (with_reducible repeat first | apply bN | apply bD | apply bA); refine blk_put (cs := #[.int .i64 t339, .int .i64 0]) ?_ 1 _ rfl; (with_reducible repeat first | apply bN | apply bD | apply bA); refine blk_put (cs := #[.int .i64 0, .int .i64 0]) ?_ 0 _ rfl; (with_reducible repeat first | apply bN | apply bD | apply bA); exact BK342.out) hb); have n9_ := Aside0.mk (below_step (by repeat (first | (with_reducible first | exact HB.out | apply below_alloc | apply lN | apply lD | refine below_set ?_ GE305.out | refine below_set ?_ GE306.out | refine below_set ?_ GE310.out | refine below_set ?_ GE314.out | refine below_set ?_ GE318.out | refine below_set ?_ GE322.out | refine below_set ?_ GE332.out | refine below_set ?_ GE336.out | refine below_set ?_ GE342.out) | exact HB.out)) hb); clear BK305; clear BK306; clear BK310; clear BK314; clear BK318; clear BK322; clear BK332; clear BK336; clear BK342; clear HB; have BK305 := n0_; have BK306 := n1_; have BK310 := n2_; have BK314 := n3_; have BK318 := n4_; have BK322 := n5_; have BK332 := n6_; have BK336 := n7_; have BK342 := n8_; have HB := n9_; clear n0_ n1_ n2_ n3_ n4_ n5_ n6_ n7_ n8_ n9_; (try clear hb); (try clear hb2); (try clear hk); (try clear hi)) | ((with_reducible refine gate_dst (N := 25) rfl ?_); refine box_event ?hg (N := 25) ?hd (cs := #[.int .i64 0, .int .i64 0]) (t := 25) ?hr ?_; (case hd => rfl); (case hg => rfl); (case hr => first | (go_simp; done) | (go_simp; rfl)); intro gb346 hg w211 hbox hb; have n0_ := Aside0.mk (blk_below (g := gb305) (o := .cells #[.int .i64 t301, .int .i64 t302] 25 (0, 0)) (by (with_reducible repeat first | apply bN | apply bD | apply bA); exact BK305.out) hb); have n1_ := Aside0.mk (blk_below (g := gb306) (o := .cells #[.int .i64 t303, .int .i64 t304] 25 (0, 0)) (by (with_reducible repeat first | apply bN | apply bD | apply bA); exact BK306.out) hb); have n2_ := Aside0.mk (blk_below (g := gb310) (o := .cells #[.int .i64 t307, .int .i64 t308] 25 (0, 0)) (by (with_reducible repeat first | apply bN | apply bD | apply bA); exact BK310.out) hb); have n3_ := Aside0.mk (blk_below (g := gb314) (o := .cells #[.int .i64 t311, .int .i64 t312] 25 (0, 0)) (by (with_reducible repeat first | apply bN | apply bD | apply bA); exact BK314.out) hb); have n4_ := Aside0.mk (blk_below (g := gb318) (o := .cells #[.int .i64 t315, .int .i64 t316] 25 (0, 0)) (by (with_reducible repeat first | apply bN | apply bD | apply bA); exact BK318.out) hb); have n5_ := Aside0.mk (blk_below (g := gb322) (o := .cells #[.int .i64 t319, .int .i64 t320] 25 (0, 0)) (by (with_reducible repeat first | apply bN | apply bD | apply bA); exact BK322.out) hb); have n6_ := Aside0.mk (blk_below (g := gb332) (o := .cells #[.int .i64 t329, .int .i64 t330] 25 (0, 0)) (by (with_reducible repeat first | apply bN | apply bD | apply bA); exact BK332.out) hb); have n7_ := Aside0.mk (blk_below (g := gb336) (o := .cells #[.int .i64 t333, .int .i64 t334] 25 (0, 0)) (by (with_reducible repeat first | apply bN | apply bD | apply bA); exact BK336.out) hb); have n8_ := Aside0.mk (blk_below (g := gb342) (o := .cells #[.int .i64 t339, .int .i64 t340] 25 (0, 0)) (by (with_reducible repeat first | apply bN | apply bD | apply bA); exact BK342.out) hb); have n9_ := Aside0.mk (below_step (by repeat (first | (with_reducible first | exact HB.out | apply below_alloc | apply lN | apply lD | refine below_set ?_ GE305.out | refine below_set ?_ GE306.out | refine below_set ?_ GE310.out | refine below_set ?_ GE314.out | refine below_set ?_ GE318.out | refine below_set ?_ GE322.out | refine below_set ?_ GE332.out | refine below_set ?_ GE336.out | refine below_set ?_ GE342.out) | exact HB.out)) hb); have n10_ := Aside0.mk (hbox); have n11_ := Aside0.mk ((by rw [hg]; exact (below_size (by repeat (first | (with_reducible first | exact HB.out | apply below_alloc | apply lN | apply lD | refine below_set ?_ GE305.out | refine below_set ?_ GE306.out | refine below_set ?_ GE310.out | refine below_set ?_ GE314.out | refine below_set ?_ GE318.out | refine below_set ?_ GE322.out | refine below_set ?_ GE332.out | refine below_set ?_ GE336.out | refine below_set ?_ GE342.out) | exact HB.out))) : w.heap.size ≤ gb346)); have n12_ := Aside0.mk ((by rw [hg]; exact (below_size (by repeat (first | (with_reducible first | exact HB.out | apply below_alloc | apply lN | apply lD | refine below_set ?_ GE305.out | refine below_set ?_ GE306.out | refine below_set ?_ GE310.out | refine below_set ?_ GE314.out | refine below_set ?_ GE318.out | refine below_set ?_ GE322.out | refine below_set ?_ GE332.out | refine below_set ?_ GE336.out | refine below_set ?_ GE342.out) | exact HB.out))) : w.heap.size ≤ gb346)); have n13_ := Aside0.mk ((by rw [hg]; exact Nat.ne_of_lt (blk_lt (g := gb305) (o := .cells #[.int .i64 t301, .int .i64 t302] 25 (0, 0)) (by (with_reducible repeat first | apply bN | apply bD | apply bA); exact BK305.out)) : gb305 ≠ gb346)); have n14_ := Aside0.mk ((by rw [hg]; exact Nat.ne_of_gt (blk_lt (g := gb305) (o := .cells #[.int .i64 t301, .int .i64 t302] 25 (0, 0)) (by (with_reducible repeat first | apply bN | apply bD | apply bA); exact BK305.out)) : gb346 ≠ gb305)); have n15_ := Aside0.mk ((by rw [hg]; exact Nat.ne_of_lt (blk_lt (g := gb306) (o := .cells #[.int .i64 t303, .int .i64 t304] 25 (0, 0)) (by (with_reducible repeat first | apply bN | apply bD | apply bA); exact BK306.out)) : gb306 ≠ gb346)); have n16_ := Aside0.mk ((by rw [hg]; exact Nat.ne_of_gt (blk_lt (g := gb306) (o := .cells #[.int .i64 t303, .int .i64 t304] 25 (0, 0)) (by (with_reducible repeat first | apply bN | apply bD | apply bA); exact BK306.out)) : gb346 ≠ gb306)); have n17_ := Aside0.mk ((by rw [hg]; exact Nat.ne_of_lt (blk_lt (g := gb310) (o := .cells #[.int .i64 t307, .int .i64 t308] 25 (0, 0)) (by (with_reducible repeat first | apply bN | apply bD | apply bA); exact BK310.out)) : gb310 ≠ gb346)); have n18_ := Aside0.mk ((by rw [hg]; exact Nat.ne_of_gt (blk_lt (g := gb310) (o := .cells #[.int .i64 t307, .int .i64 t308] 25 (0, 0)) (by (with_reducible repeat first | apply bN | apply bD | apply bA); exact BK310.out)) : gb346 ≠ gb310)); have n19_ := Aside0.mk ((by rw [hg]; exact Nat.ne_of_lt (blk_lt (g := gb314) (o := .cells #[.int .i64 t311, .int .i64 t312] 25 (0, 0)) (by (with_reducible repeat first | apply bN | apply bD | apply bA); exact BK314.out)) : gb314 ≠ gb346)); have n20_ := Aside0.mk ((by rw [hg]; exact Nat.ne_of_gt (blk_lt (g := gb314) (o := .cells #[.int .i64 t311, .int .i64 t312] 25 (0, 0)) (by (with_reducible repeat first | apply bN | apply bD | apply bA); exact BK314.out)) : gb346 ≠ gb314)); have n21_ := Aside0.mk ((by rw [hg]; exact Nat.ne_of_lt (blk_lt (g := gb318) (o := .cells #[.int .i64 t315, .int .i64 t316] 25 (0, 0)) (by (with_reducible repeat first | apply bN | apply bD | apply bA); exact BK318.out)) : gb318 ≠ gb346)); have n22_ := Aside0.mk ((by rw [hg]; exact Nat.ne_of_gt (blk_lt (g := gb318) (o := .cells #[.int .i64 t315, .int .i64 t316] 25 (0, 0)) (by (with_reducible repeat first | apply bN | apply bD | apply bA); exact BK318.out)) : gb346 ≠ gb318)); have n23_ := Aside0.mk ((by rw [hg]; exact Nat.ne_of_lt (blk_lt (g := gb322) (o := .cells #[.int .i64 t319, .int .i64 t320] 25 (0, 0)) (by (with_reducible repeat first | apply bN | apply bD | apply bA); exact BK322.out)) : gb322 ≠ gb346)); have n24_ := Aside0.mk ((by rw [hg]; exact Nat.ne_of_gt (blk_lt (g := gb322) (o := .cells #[.int .i64 t319, .int .i64 t320] 25 (0, 0)) (by (with_reducible repeat first | apply bN | apply bD | apply bA); exact BK322.out)) : gb346 ≠ gb322)); have n25_ := Aside0.mk ((by rw [hg]; exact Nat.ne_of_lt (blk_lt (g := gb332) (o := .cells #[.int .i64 t329, .int .i64 t330] 25 (0, 0)) (by (with_reducible repeat first | apply bN | apply bD | apply bA); exact BK332.out)) : gb332 ≠ gb346)); have n26_ := Aside0.mk ((by rw [hg]; exact Nat.ne_of_gt (blk_lt (g := gb332) (o := .cells #[.int .i64 t329, .int .i64 t330] 25 (0, 0)) (by (with_reducible repeat first | apply bN | apply bD | apply bA); exact BK332.out)) : gb346 ≠ gb332)); have n27_ := Aside0.mk ((by rw [hg]; exact Nat.ne_of_lt (blk_lt (g := gb336) (o := .cells #[.int .i64 t333, .int .i64 t334] 25 (0, 0)) (by (with_reducible repeat first | apply bN | apply bD | apply bA); exact BK336.out)) : gb336 ≠ gb346)); have n28_ := Aside0.mk ((by rw [hg]; exact Nat.ne_of_gt (blk_lt (g := gb336) (o := .cells #[.int .i64 t333, .int .i64 t334] 25 (0, 0)) (by (with_reducible repeat first | apply bN | apply bD | apply bA); exact BK336.out)) : gb346 ≠ gb336)); have n29_ := Aside0.mk ((by rw [hg]; exact Nat.ne_of_lt (blk_lt (g := gb342) (o := .cells #[.int .i64 t339, .int .i64 t340] 25 (0, 0)) (by (with_reducible repeat first | apply bN | apply bD | apply bA); exact BK342.out)) : gb342 ≠ gb346)); have n30_ := Aside0.mk ((by rw [hg]; exact Nat.ne_of_gt (blk_lt (g := gb342) (o := .cells #[.int .i64 t339, .int .i64 t340] 25 (0, 0)) (by (with_reducible repeat first | apply bN | apply bD | apply bA); exact BK342.out)) : gb346 ≠ gb342)); clear BK305; clear BK306; clear BK310; clear BK314; clear BK318; clear BK322; clear BK332; clear BK336; clear BK342; clear HB; have BK305 := n0_; have BK306 := n1_; have BK310 := n2_; have BK314 := n3_; have BK318 := n4_; have BK322 := n5_; have BK332 := n6_; have BK336 := n7_; have BK342 := n8_; have HB := n9_; have BK346 := n10_; have GW346 := n11_; have GE346 := n12_; have NB305_346 := n13_; have NB346_305 := n14_; have NB306_346 := n15_; have NB346_306 := n16_; have NB310_346 := n17_; have NB346_310 := n18_; have NB314_346 := n19_; have NB346_314 := n20_; have NB318_346 := n21_; have NB346_318 := n22_; have NB322_346 := n23_; have NB346_322 := n24_; have NB332_346 := n25_; have NB346_332 := n26_; have NB336_346 := n27_; have NB346_336 := n28_; have NB342_346 := n29_; have NB346_342 := n30_; clear n0_ n1_ n2_ n3_ n4_ n5_ n6_ n7_ n8_ n9_ n10_ n11_ n12_ n13_ n14_ n15_ n16_ n17_ n18_ n19_ n20_ n21_ n22_ n23_ n24_ n25_ n26_ n27_ n28_ n29_ n30_; clear hb hbox hg; have hnb212 := NB346_305.out; have hnc212 := NB305_346.out; have hnb213 := NB346_306.out; have hnc213 := NB306_346.out; have hnb214 := NB346_310.out; have hnc214 := NB310_346.out; have hnb215 := NB346_314.out; have hnc215 := NB314_346.out; have hnb216 := NB346_318.out; have hnc216 := NB318_346.out; have hnb217 := NB346_322.out; have hnc217 := NB322_346.out; have hnb218 := NB346_332.out; have hnc218 := NB332_346.out; have hnb219 := NB346_336.out; have hnc219 := NB336_346.out; have hnb220 := NB346_342.out; have hnc220 := NB342_346.out; have hcz221_0 : w211.cell? ⟨gb346, 0, none⟩ = some (.int .i64 0) := (blk_cell BK346.out 0).trans rfl; have hcz221_1 : w211.cell? ⟨gb346, 1, none⟩ = some (.int .i64 0) := (blk_cell BK346.out 1).trans rfl; have hfz221_0 := blk_frozen BK346.out 0; have hfz221_1 := blk_frozen BK346.out 1; have hcz222_0 : w211.cell? ⟨gb306, 0, none⟩ = some (.int .i64 t303) := (blk_cell BK306.out 0).trans rfl; have hcz222_1 : w211.cell? ⟨gb306, 1, none⟩ = some (.int .i64 t304) := (blk_cell BK306.out 1).trans rfl; have hfz222_0 := blk_frozen BK306.out 0; have hfz222_1 := blk_frozen BK306.out 1; have hcz223_0 : w211.cell? ⟨gb305, 0, none⟩ = some (.int .i64 t301) := (blk_cell BK305.out 0).trans rfl; have hcz223_1 : w211.cell? ⟨gb305, 1, none⟩ = some (.int .i64 t302) := (blk_cell BK305.out 1).trans rfl; have hfz223_0 := blk_frozen BK305.out 0; have hfz223_1 := blk_frozen BK305.out 1) | ((with_reducible refine gate_callee (f := 10) rfl ?_); refine goesL_ (some 149) rfl rfl Try.func10 (by kernel_rfl) rfl #[.agg #[.int .i64 t303, .int .i64 t304], .agg #[.int .i64 t301, .int .i64 t302]] rfl (by (try simp only [List.map_toArray, List.map_cons, List.map_nil]); first | done | rfl | (go_simp; done) | simp) ?_; (with_reducible refine (impl_CompareRatios.calls kj13 t303 t304 t301 t302 t347 t348 _ A112.out).mono ?_); rintro e w224 ⟨rfl, hb⟩; refine ⟨_, rfl, ?_⟩; have n0_ := Aside0.mk (blk_below (g := gb305) (o := .cells #[.int .i64 t301, .int .i64 t302] 25 (0, 0)) (by (with_reducible repeat first | apply bN | apply bD | apply bA); refine blk_far ?_ NB305_346.out _; (with_reducible repeat first | apply bN | apply bD | apply bA); refine blk_far ?_ NB305_346.out _; (with_reducible repeat first | apply bN | apply bD | apply bA); exact BK305.out) hb); have n1_ := Aside0.mk (blk_below (g := gb306) (o := .cells #[.int .i64 t303, .int .i64 t304] 25 (0, 0)) (by (with_reducible repeat first | apply bN | apply bD | apply bA); refine blk_far ?_ NB306_346.out _; (with_reducible repeat first | apply bN | apply bD | apply bA); refine blk_far ?_ NB306_346.out _; (with_reducible repeat first | apply bN | apply bD | apply bA); exact BK306.out) hb); have n2_ := Aside0.mk (blk_below (g := gb310) (o := .cells #[.int .i64 t307, .int .i64 t308] 25 (0, 0)) (by (with_reducible repeat first | apply bN | apply bD | apply bA); refine blk_far ?_ NB310_346.out _; (with_reducible repeat first | apply bN | apply bD | apply bA); refine blk_far ?_ NB310_346.out _; (with_reducible repeat first | apply bN | apply bD | apply bA); exact BK310.out) hb); have n3_ := Aside0.mk (blk_below (g := gb314) (o := .cells #[.int .i64 t311, .int .i64 t312] 25 (0, 0)) (by (with_reducible repeat first | apply bN | apply bD | apply bA); refine blk_far ?_ NB314_346.out _; (with_reducible repeat first | apply bN | apply bD | apply bA); refine blk_far ?_ NB314_346.out _; (with_reducible repeat first | apply bN | apply bD | apply bA); exact BK314.out) hb); have n4_ := Aside0.mk (blk_below (g := gb318) (o := .cells #[.int .i64 t315, .int .i64 t316] 25 (0, 0)) (by (with_reducible repeat first | apply bN | apply bD | apply bA); refine blk_far ?_ NB318_346.out _; (with_reducible repeat first | apply bN | apply bD | apply bA); refine blk_far ?_ NB318_346.out _; (with_reducible repeat first | apply bN | apply bD | apply bA); exact BK318.out) hb); have n5_ := Aside0.mk (blk_below (g := gb322) (o := .cells #[.int .i64 t319, .int .i64 t320] 25 (0, 0)) (by (with_reducible repeat first | apply bN | apply bD | apply bA); refine blk_far ?_ NB322_346.out _; (with_reducible repeat first | apply bN | apply bD | apply bA); refine blk_far ?_ NB322_346.out _; (with_reducible repeat first | apply bN | apply bD | apply bA); exact BK322.out) hb); have n6_ := Aside0.mk (blk_below (g := gb332) (o := .cells #[.int .i64 t329, .int .i64 t330] 25 (0, 0)) (by (with_reducible repeat first | apply bN | apply bD | apply bA); refine blk_far ?_ NB332_346.out _; (with_reducible repeat first | apply bN | apply bD | apply bA); refine blk_far ?_ NB332_346.out _; (with_reducible repeat first | apply bN | apply bD | apply bA); exact BK332.out) hb); have n7_ := Aside0.mk (blk_below (g := gb336) (o := .cells #[.int .i64 t333, .int .i64 t334] 25 (0, 0)) (by (with_reducible repeat first | apply bN | apply bD | apply bA); refine blk_far ?_ NB336_346.out _; (with_reducible repeat first | apply bN | apply bD | apply bA); refine blk_far ?_ NB336_346.out _; (with_reducible repeat first | apply bN | apply bD | apply bA); exact BK336.out) hb); have n8_ := Aside0.mk (blk_below (g := gb342) (o := .cells #[.int .i64 t339, .int .i64 t340] 25 (0, 0)) (by (with_reducible repeat first | apply bN | apply bD | apply bA); refine blk_far ?_ NB342_346.out _; (with_reducible repeat first | apply bN | apply bD | apply bA); refine blk_far ?_ NB342_346.out _; (with_reducible repeat first | apply bN | apply bD | apply bA); exact BK342.out) hb); have n9_ := Aside0.mk (blk_below (g := gb346) (o := .cells #[.int .i64 t343, .int .i64 t344] 25 (0, 0)) (by (with_reducible repeat first | apply bN | apply bD | apply bA); refine blk_put (cs := #[.int .i64 t343, .int .i64 0]) ?_ 1 _ rfl; (with_reducible repeat first | apply bN | apply bD | apply bA); refine blk_put (cs := #[.int .i64 0, .int .i64 0]) ?_ 0 _ rfl; (with_reducible repeat first | apply bN | apply bD | apply bA); exact BK346.out) hb); have n10_ := Aside0.mk (below_step (by repeat (first | (with_reducible first | exact HB.out | apply below_alloc | apply lN | apply lD | refine below_set ?_ GE305.out | refine below_set ?_ GE306.out | refine below_set ?_ GE310.out | refine below_set ?_ GE314.out | refine below_set ?_ GE318.out | refine below_set ?_ GE322.out | refine below_set ?_ GE332.out | refine below_set ?_ GE336.out | refine below_set ?_ GE342.out | refine below_set ?_ GE346.out) | exact HB.out)) hb); clear BK305; clear BK306; clear BK310; clear BK314; clear BK318; clear BK322; clear BK332; clear BK336; clear BK342; clear BK346; clear HB; have BK305 := n0_; have BK306 := n1_; have BK310 := n2_; have BK314 := n3_; have BK318 := n4_; have BK322 := n5_; have BK332 := n6_; have BK336 := n7_; have BK342 := n8_; have BK346 := n9_; have HB := n10_; clear n0_ n1_ n2_ n3_ n4_ n5_ n6_ n7_ n8_ n9_ n10_; (try clear hb); (try clear hb2); (try clear hk); (try clear hi); have hcz225_0 : w224.cell? ⟨gb342, 0, none⟩ = some (.int .i64 t339) := (blk_cell BK342.out 0).trans rfl; have hcz225_1 : w224.cell? ⟨gb342, 1, none⟩ = some (.int .i64 t340) := (blk_cell BK342.out 1).trans rfl; have hfz225_0 := blk_frozen BK342.out 0; have hfz225_1 := blk_frozen BK342.out 1; have hnb226 := NB310_314.out; have hnc226 := NB314_310.out; have hnb227 := NB310_318.out; have hnc227 := NB318_310.out; have hnb228 := NB310_322.out; have hnc228 := NB322_310.out; have hnb229 := NB310_332.out; have hnc229 := NB332_310.out; have hnb230 := NB310_336.out; have hnc230 := NB336_310.out; have hcz231_0 : w224.cell? ⟨gb310, 0, none⟩ = some (.int .i64 t307) := (blk_cell BK310.out 0).trans rfl; have hcz231_1 : w224.cell? ⟨gb310, 1, none⟩ = some (.int .i64 t308) := (blk_cell BK310.out 1).trans rfl; have hfz231_0 := blk_frozen BK310.out 0; have hfz231_1 := blk_frozen BK310.out 1; have hcz232_0 : w224.cell? ⟨gb346, 0, none⟩ = some (.int .i64 t343) := (blk_cell BK346.out 0).trans rfl; have hcz232_1 : w224.cell? ⟨gb346, 1, none⟩ = some (.int .i64 t344) := (blk_cell BK346.out 1).trans rfl; have hfz232_0 := blk_frozen BK346.out 0; have hfz232_1 := blk_frozen BK346.out 1; have hnb233 := NB318_314.out; have hnc233 := NB314_318.out; have hnb234 := NB318_322.out; have hnc234 := NB322_318.out; have hnb235 := NB318_332.out; have hnc235 := NB332_318.out; have hnb236 := NB318_336.out; have hnc236 := NB336_318.out; have hcz237_0 : w224.cell? ⟨gb318, 0, none⟩ = some (.int .i64 t315) := (blk_cell BK318.out 0).trans rfl; have hcz237_1 : w224.cell? ⟨gb318, 1, none⟩ = some (.int .i64 t316) := (blk_cell BK318.out 1).trans rfl; have hfz237_0 := blk_frozen BK318.out 0; have hfz237_1 := blk_frozen BK318.out 1))
            have n0_ := Aside0.mk (blk_drew BK305.out)
            have n1_ := Aside0.mk (blk_drew BK306.out)
            have n2_ := Aside0.mk (blk_drew BK310.out)
            have n3_ := Aside0.mk (blk_drew BK314.out)
            have n4_ := Aside0.mk (blk_drew BK318.out)
            have n5_ := Aside0.mk (blk_drew BK322.out)
            have n6_ := Aside0.mk (blk_drew BK332.out)
            have n7_ := Aside0.mk (blk_drew BK336.out)
            have n8_ := Aside0.mk (blk_drew BK342.out)
            have n9_ := Aside0.mk (blk_drew BK346.out)
            have n10_ := Aside0.mk (below_drew1 HB.out)
            clear BK305
            clear BK306
            clear BK310
            clear BK314
            clear BK318
            clear BK322
            clear BK332
            clear BK336
            clear BK342
            clear BK346
            clear HB
            have BK305 := n0_
            have BK306 := n1_
            have BK310 := n2_
            have BK314 := n3_
            have BK318 := n4_
            have BK322 := n5_
            have BK332 := n6_
            have BK336 := n7_
            have BK342 := n8_
            have BK346 := n9_
            have HB := n10_
            clear n0_ n1_ n2_ n3_ n4_ n5_ n6_ n7_ n8_ n9_ n10_
            refine start_ (n := 25) (S := fun w' => True) (ds := []) #[false, false, false, false, false, false, false, false, false, false, false, false, false, false, false, false, false, false, false, false, false, false, false, false, false] (by kernel_rfl) rfl rfl trivial (fun hHeld => ?_); refine with_tabW laws_FnFractions.tab20 laws_FnFractions.bits20 (fun HT_ HW_ => ?_)
            generalize w224.drew = w238 at BK305 BK306 BK310 BK314 BK318 BK322 BK332 BK336 BK342 BK346 HB hHeld ⊢
            refine pure_ (i := 0) (N := some 181) (v := ?_) (a' := ?_) #[true, false, false, false, false, false, false, false, false, false, false, false, false, false, false, false, false, false, false, false, false, false, false, false, false] rfl rfl (any_of HT_.out (by kernel_rfl)) (fun _ _ _ h => h) (Or.inl ⟨by rfl, ?_⟩) ?_ ?_
            rotate_left
            ·
             intro w'
             go_simp
             with_reducible rfl
            rotate_left
            ·
             simp only [Act.put, List.setIfInBounds_toArray, List.set_cons_zero, List.set_cons_succ, i64_w, i32_w]
             rfl
            refine pure_ (i := 1) (N := some 182) (v := ?_) (a' := ?_) #[true, true, false, false, false, false, false, false, false, false, false, false, false, false, false, false, false, false, false, false, false, false, false, false, false] rfl rfl (any_of HT_.out (by kernel_rfl)) (fun _ _ _ h => h) (Or.inl ⟨by rfl, ?_⟩) ?_ ?_
            rotate_left
            ·
             intro w'
             go_simp
             with_reducible rfl
            rotate_left
            ·
             simp only [Act.put, List.setIfInBounds_toArray, List.set_cons_zero, List.set_cons_succ, i64_w, i32_w]
             rfl
            refine pure_ (i := 2) (N := some 183) (v := ?_) (a' := ?_) #[true, true, true, false, false, false, false, false, false, false, false, false, false, false, false, false, false, false, false, false, false, false, false, false, false] rfl rfl (any_of HT_.out (by kernel_rfl)) (fun _ _ _ h => h) (Or.inl ⟨by rfl, ?_⟩) ?_ ?_
            rotate_left
            ·
             intro w'
             go_simp
             with_reducible rfl
            rotate_left
            ·
             simp only [Act.put, List.setIfInBounds_toArray, List.set_cons_zero, List.set_cons_succ, i64_w, i32_w]
             rfl
            refine pure_ (i := 3) (N := some 184) (v := undef) (a' := ?_) #[true, true, true, true, false, false, false, false, false, false, false, false, false, false, false, false, false, false, false, false, false, false, false, false, false] rfl rfl (any_of HT_.out (by kernel_rfl)) (fun _ _ _ h => h) (Or.inr ⟨by rfl, rfl⟩) ?_ ?_
            rotate_left
            ·
             simp only [Act.put, List.setIfInBounds_toArray, List.set_cons_zero, List.set_cons_succ, i64_w, i32_w]
             rfl
            refine pure_ (i := 4) (N := some 185) (v := undef) (a' := ?_) #[true, true, true, true, true, false, false, false, false, false, false, false, false, false, false, false, false, false, false, false, false, false, false, false, false] rfl rfl (any_of HT_.out (by kernel_rfl)) (fun _ _ _ h => h) (Or.inr ⟨by rfl, rfl⟩) ?_ ?_
            rotate_left
            ·
             simp only [Act.put, List.setIfInBounds_toArray, List.set_cons_zero, List.set_cons_succ, i64_w, i32_w]
             rfl
            refine pure_ (i := 5) (N := some 186) (v := undef) (a' := ?_) #[true, true, true, true, true, true, false, false, false, false, false, false, false, false, false, false, false, false, false, false, false, false, false, false, false] rfl rfl (any_of HT_.out (by kernel_rfl)) (fun _ _ _ h => h) (Or.inr ⟨by rfl, rfl⟩) ?_ ?_
            rotate_left
            ·
             simp only [Act.put, List.setIfInBounds_toArray, List.set_cons_zero, List.set_cons_succ, i64_w, i32_w]
             rfl
            refine pure_ (i := 6) (N := some 187) (v := undef) (a' := ?_) #[true, true, true, true, true, true, true, false, false, false, false, false, false, false, false, false, false, false, false, false, false, false, false, false, false] rfl rfl (any_of HT_.out (by kernel_rfl)) (fun _ _ _ h => h) (Or.inr ⟨by rfl, rfl⟩) ?_ ?_
            rotate_left
            ·
             simp only [Act.put, List.setIfInBounds_toArray, List.set_cons_zero, List.set_cons_succ, i64_w, i32_w]
             rfl
            refine pure_ (i := 7) (N := some 188) (v := undef) (a' := ?_) #[true, true, true, true, true, true, true, true, false, false, false, false, false, false, false, false, false, false, false, false, false, false, false, false, false] rfl rfl (any_of HT_.out (by kernel_rfl)) (fun _ _ _ h => h) (Or.inr ⟨by rfl, rfl⟩) ?_ ?_
            rotate_left
            ·
             simp only [Act.put, List.setIfInBounds_toArray, List.set_cons_zero, List.set_cons_succ, i64_w, i32_w]
             rfl
            refine pure_ (i := 8) (N := some 189) (v := undef) (a' := ?_) #[true, true, true, true, true, true, true, true, true, false, false, false, false, false, false, false, false, false, false, false, false, false, false, false, false] rfl rfl (any_of HT_.out (by kernel_rfl)) (fun _ _ _ h => h) (Or.inr ⟨by rfl, rfl⟩) ?_ ?_
            rotate_left
            ·
             simp only [Act.put, List.setIfInBounds_toArray, List.set_cons_zero, List.set_cons_succ, i64_w, i32_w]
             rfl
            refine pure_ (i := 9) (N := some 190) (v := undef) (a' := ?_) #[true, true, true, true, true, true, true, true, true, true, false, false, false, false, false, false, false, false, false, false, false, false, false, false, false] rfl rfl (any_of HT_.out (by kernel_rfl)) (fun _ _ _ h => h) (Or.inr ⟨by rfl, rfl⟩) ?_ ?_
            rotate_left
            ·
             simp only [Act.put, List.setIfInBounds_toArray, List.set_cons_zero, List.set_cons_succ, i64_w, i32_w]
             rfl
            refine pure_ (i := 10) (N := some 191) (v := undef) (a' := ?_) #[true, true, true, true, true, true, true, true, true, true, true, false, false, false, false, false, false, false, false, false, false, false, false, false, false] rfl rfl (any_of HT_.out (by kernel_rfl)) (fun _ _ _ h => h) (Or.inr ⟨by rfl, rfl⟩) ?_ ?_
            rotate_left
            ·
             simp only [Act.put, List.setIfInBounds_toArray, List.set_cons_zero, List.set_cons_succ, i64_w, i32_w]
             rfl
            refine pure_ (i := 11) (N := some 192) (v := undef) (a' := ?_) #[true, true, true, true, true, true, true, true, true, true, true, true, false, false, false, false, false, false, false, false, false, false, false, false, false] rfl rfl (any_of HT_.out (by kernel_rfl)) (fun _ _ _ h => h) (Or.inr ⟨by rfl, rfl⟩) ?_ ?_
            rotate_left
            ·
             simp only [Act.put, List.setIfInBounds_toArray, List.set_cons_zero, List.set_cons_succ, i64_w, i32_w]
             rfl
            refine pure_ (i := 12) (N := some 193) (v := undef) (a' := ?_) #[true, true, true, true, true, true, true, true, true, true, true, true, true, false, false, false, false, false, false, false, false, false, false, false, false] rfl rfl (any_of HT_.out (by kernel_rfl)) (fun _ _ _ h => h) (Or.inr ⟨by rfl, rfl⟩) ?_ ?_
            rotate_left
            ·
             simp only [Act.put, List.setIfInBounds_toArray, List.set_cons_zero, List.set_cons_succ, i64_w, i32_w]
             rfl
            refine pure_ (i := 13) (N := some 194) (v := undef) (a' := ?_) #[true, true, true, true, true, true, true, true, true, true, true, true, true, true, false, false, false, false, false, false, false, false, false, false, false] rfl rfl (any_of HT_.out (by kernel_rfl)) (fun _ _ _ h => h) (Or.inr ⟨by rfl, rfl⟩) ?_ ?_
            rotate_left
            ·
             simp only [Act.put, List.setIfInBounds_toArray, List.set_cons_zero, List.set_cons_succ, i64_w, i32_w]
             rfl
            refine pure_ (i := 14) (N := some 195) (v := undef) (a' := ?_) #[true, true, true, true, true, true, true, true, true, true, true, true, true, true, true, false, false, false, false, false, false, false, false, false, false] rfl rfl (any_of HT_.out (by kernel_rfl)) (fun _ _ _ h => h) (Or.inr ⟨by rfl, rfl⟩) ?_ ?_
            rotate_left
            ·
             simp only [Act.put, List.setIfInBounds_toArray, List.set_cons_zero, List.set_cons_succ, i64_w, i32_w]
             rfl
            refine pure_ (i := 15) (N := some 196) (v := undef) (a' := ?_) #[true, true, true, true, true, true, true, true, true, true, true, true, true, true, true, true, false, false, false, false, false, false, false, false, false] rfl rfl (any_of HT_.out (by kernel_rfl)) (fun _ _ _ h => h) (Or.inr ⟨by rfl, rfl⟩) ?_ ?_
            rotate_left
            ·
             simp only [Act.put, List.setIfInBounds_toArray, List.set_cons_zero, List.set_cons_succ, i64_w, i32_w]
             rfl
            refine pure_ (i := 16) (N := some 197) (v := undef) (a' := ?_) #[true, true, true, true, true, true, true, true, true, true, true, true, true, true, true, true, true, false, false, false, false, false, false, false, false] rfl rfl (any_of HT_.out (by kernel_rfl)) (fun _ _ _ h => h) (Or.inr ⟨by rfl, rfl⟩) ?_ ?_
            rotate_left
            ·
             simp only [Act.put, List.setIfInBounds_toArray, List.set_cons_zero, List.set_cons_succ, i64_w, i32_w]
             rfl
            refine pure_ (i := 17) (N := some 198) (v := undef) (a' := ?_) #[true, true, true, true, true, true, true, true, true, true, true, true, true, true, true, true, true, true, false, false, false, false, false, false, false] rfl rfl (any_of HT_.out (by kernel_rfl)) (fun _ _ _ h => h) (Or.inr ⟨by rfl, rfl⟩) ?_ ?_
            rotate_left
            ·
             simp only [Act.put, List.setIfInBounds_toArray, List.set_cons_zero, List.set_cons_succ, i64_w, i32_w]
             rfl
            refine pure_ (i := 18) (N := some 199) (v := undef) (a' := ?_) #[true, true, true, true, true, true, true, true, true, true, true, true, true, true, true, true, true, true, true, false, false, false, false, false, false] rfl rfl (any_of HT_.out (by kernel_rfl)) (fun _ _ _ h => h) (Or.inr ⟨by rfl, rfl⟩) ?_ ?_
            rotate_left
            ·
             simp only [Act.put, List.setIfInBounds_toArray, List.set_cons_zero, List.set_cons_succ, i64_w, i32_w]
             rfl
            refine pure_ (i := 19) (N := some 200) (v := undef) (a' := ?_) #[true, true, true, true, true, true, true, true, true, true, true, true, true, true, true, true, true, true, true, true, false, false, false, false, false] rfl rfl (any_of HT_.out (by kernel_rfl)) (fun _ _ _ h => h) (Or.inr ⟨by rfl, rfl⟩) ?_ ?_
            rotate_left
            ·
             simp only [Act.put, List.setIfInBounds_toArray, List.set_cons_zero, List.set_cons_succ, i64_w, i32_w]
             rfl
            refine pure_ (i := 20) (N := some 201) (v := undef) (a' := ?_) #[true, true, true, true, true, true, true, true, true, true, true, true, true, true, true, true, true, true, true, true, true, false, false, false, false] rfl rfl (any_of HT_.out (by kernel_rfl)) (fun _ _ _ h => h) (Or.inr ⟨by rfl, rfl⟩) ?_ ?_
            rotate_left
            ·
             simp only [Act.put, List.setIfInBounds_toArray, List.set_cons_zero, List.set_cons_succ, i64_w, i32_w]
             rfl
            refine pure_ (i := 21) (N := some 202) (v := undef) (a' := ?_) #[true, true, true, true, true, true, true, true, true, true, true, true, true, true, true, true, true, true, true, true, true, true, false, false, false] rfl rfl (any_of HT_.out (by kernel_rfl)) (fun _ _ _ h => h) (Or.inr ⟨by rfl, rfl⟩) ?_ ?_
            rotate_left
            ·
             simp only [Act.put, List.setIfInBounds_toArray, List.set_cons_zero, List.set_cons_succ, i64_w, i32_w]
             rfl
            refine pure_ (i := 22) (N := some 203) (v := undef) (a' := ?_) #[true, true, true, true, true, true, true, true, true, true, true, true, true, true, true, true, true, true, true, true, true, true, true, false, false] rfl rfl (any_of HT_.out (by kernel_rfl)) (fun _ _ _ h => h) (Or.inr ⟨by rfl, rfl⟩) ?_ ?_
            rotate_left
            ·
             simp only [Act.put, List.setIfInBounds_toArray, List.set_cons_zero, List.set_cons_succ, i64_w, i32_w]
             rfl
            refine pure_ (i := 23) (N := some 204) (v := ?_) (a' := ?_) #[true, true, true, true, true, true, true, true, true, true, true, true, true, true, true, true, true, true, true, true, true, true, true, true, false] rfl rfl (any_of HT_.out (by kernel_rfl)) (fun _ _ _ h => h) (Or.inl ⟨by rfl, ?_⟩) ?_ ?_
            rotate_left
            ·
             intro w'
             go_simp
             with_reducible rfl
            rotate_left
            ·
             simp only [Act.put, List.setIfInBounds_toArray, List.set_cons_zero, List.set_cons_succ, i64_w, i32_w]
             rfl
            refine pure_ (i := 24) (N := some 2) (v := ?_) (a' := ?_) #[true, true, true, true, true, true, true, true, true, true, true, true, true, true, true, true, true, true, true, true, true, true, true, true, true] rfl rfl (any_of HT_.out (by kernel_rfl)) (fun _ _ _ h => h) (Or.inl ⟨by rfl, ?_⟩) ?_ ?_
            rotate_left
            ·
             intro w'
             go_simp
             with_reducible rfl
            rotate_left
            ·
             simp only [Act.put, List.setIfInBounds_toArray, List.set_cons_zero, List.set_cons_succ, i64_w, i32_w]
             rfl
            refine done_ (done_of HT_.out (by kernel_rfl)) ?_
            try go_wp2
            go_ret
            exact ⟨by first | rfl | (simp [errW_none, errW_some] <;> rfl) | (simp [*, errW_none, errW_some] <;> rfl), by repeat (first | (with_reducible first | exact HB.out | apply below_alloc | apply lN | apply lD | refine below_set ?_ GE305.out | refine below_set ?_ GE306.out | refine below_set ?_ GE310.out | refine below_set ?_ GE314.out | refine below_set ?_ GE318.out | refine below_set ?_ GE322.out | refine below_set ?_ GE332.out | refine below_set ?_ GE336.out | refine below_set ?_ GE342.out | refine below_set ?_ GE346.out) | exact HB.out)⟩
          ·
           rw [if_neg c118] at H
           have c118b0 : (t347 == (wrap64 (-t323))) = false := beq_eq_false_iff_ne.mpr c118
           have c118b1 : (t347 != (wrap64 (-t323))) = true := bne_iff_ne.mpr c118
           obtain rfl := Option.some.inj H
           exact absurd hr_.out (by decide)
         ·
          rw [if_neg c117] at H
          have c117b0 : (t348 == t324) = false := beq_eq_false_iff_ne.mpr c117
          have c117b1 : (t348 != t324) = true := bne_iff_ne.mpr c117
          obtain rfl := Option.some.inj H
          exact absurd hr_.out (by decide)
       ·
        rw [if_neg c115] at H
        have c115b0 : (t345 == t317) = false := beq_eq_false_iff_ne.mpr c115
        have c115b1 : (t345 != t317) = true := bne_iff_ne.mpr c115
        obtain rfl := Option.some.inj H
        exact absurd hr_.out (by decide)
     ·
      rw [if_neg c113] at H
      have c113b0 : (t341 == t309) = false := beq_eq_false_iff_ne.mpr c113
      have c113b1 : (t341 != t309) = true := bne_iff_ne.mpr c113
      obtain rfl := Option.some.inj H
      exact absurd hr_.out (by decide)


end Go.Proofs.Ytifjnmlokjfcjaa.HandFnFractions
