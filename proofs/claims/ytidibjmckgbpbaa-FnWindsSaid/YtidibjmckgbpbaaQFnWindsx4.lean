-- Written by a program of this project's session, after the kit's print (a turned copy of its programs). Lean checks it.
import Derived.Test.YtidibjmckgbpbaaQFnWindsx0
import Derived.Test.YtidibjmckgbpbaaQFnWindsx3
namespace Go.Proofs.Ytidibjmckgbpbaa.QFnWinds
open Go.RowKit Go.Proofs.YtidibjmckgbpbaaW.PrintWords Go.Proofs.YtidibjmckgbpbaaW.PrintLast Go.Proofs.YtidibjmckgbpbaaW.PrintMore
attribute [local go_sem] max2_int min2_int max_two min_two max_three min_three max_four min_four   -- for this text's walks alone
set_option linter.unusedVariables false
set_option linter.unusedSimpArgs false

/-! ### impl_layersTo: function 55 -/
def impl_layersTo.j0 : Nat → List (S55) → Int → Bool → Option ((List (S55)) × Int)
 | 0, _, _, _ => none
 | k + 1, x0, x1, x18 => if x18 = true then (some (([] : List (S55)), 2)) else ((impl_layerOf.f k x0 x1).bind fun t128 => (if t128 < 0 then (some (([] : List (S55)), 4)) else ((some (([] : List (S55)) : List (S55))).bind fun y129 => (if 0 ≤ (wrap64 (t128 + 1)) then (if (wrap64 (t128 + 1)) ≤ (x0.length : Int) then ((some (x0.take ((wrap64 (t128 + 1)) : Int).toNat : List (S55))).bind fun y132 => (if y129.length + y132.length < 5864062014805 then (some ((y129 ++ y132), 0)) else (none))) else (none)) else (none)))))
def impl_layersTo.f (k : Nat) (l0 : List (S55)) (a1 : Int) (a2 : Bool) : Option ((List (S55)) × Int) := (impl_IsProfile.f k l0).bind fun t126 => (if t126 = true then ((impl_within.f a1 0 1000000).bind fun t127 => (if t127 = true then (impl_layersTo.j0 k l0 a1 (!a2)) else (impl_layersTo.j0 k l0 a1 true))) else (some (([] : List (S55)), 1)))
theorem impl_layersTo.mono_l : ∀ k, (∀ y0 y1 y2, LeO (impl_layersTo.j0 k y0 y1 y2) (impl_layersTo.j0 (k + 1) y0 y1 y2))
 | 0 => fun _ _ _ r h => by simp [impl_layersTo.j0] at h
 | k + 1 => by
  have ih0 := impl_layersTo.mono_l k
  ·
   intro y0 y1 y2
   unfold impl_layersTo.j0
   repeat' first
   | (with_reducible exact ih0 _ _ _)
   | (with_reducible exact impl_IsProfile.mono _ _)
   | (with_reducible exact impl_layerOf.mono _ _ _)
   | (with_reducible exact LeO.refl _)
   | (with_reducible exact LeO.none _)
   | (with_reducible refine LeO.ite ?_ ?_)
   | (with_reducible refine LeO.bind ?_ (fun _ => ?_))
   | exact ih0 _ _ _
   | exact impl_IsProfile.mono _ _
   | exact impl_layerOf.mono _ _ _
   | exact LeO.none _
   | refine LeO.ite ?_ ?_
   | refine LeO.bind ?_ (fun _ => ?_)
theorem impl_layersTo.mono : ∀ a0 a1 a2 k, LeO (impl_layersTo.f k a0 a1 a2) (impl_layersTo.f (k + 1) a0 a1 a2) := by
 intro a0 a1 a2 k
 have ih0 := impl_layersTo.mono_l k
 unfold impl_layersTo.f
 repeat' first
   | (with_reducible exact ih0 _ _ _)
   | (with_reducible exact impl_IsProfile.mono _ _)
   | (with_reducible exact impl_layerOf.mono _ _ _)
   | (with_reducible exact LeO.refl _)
   | (with_reducible exact LeO.none _)
   | (with_reducible refine LeO.ite ?_ ?_)
   | (with_reducible refine LeO.bind ?_ (fun _ => ?_))
   | exact ih0 _ _ _
   | exact impl_IsProfile.mono _ _
   | exact impl_layerOf.mono _ _ _
   | exact LeO.none _
   | refine LeO.ite ?_ ?_
   | refine LeO.bind ?_ (fun _ => ?_)
theorem cut_cap {P : Program} (t e : TypeId) (kh : IntKind) {i : TypeInfo} (ht : P.underlying t = some (.slice e)) (hi : P.info? e = some i) (A : Option Addr) (n c : Nat) (j : Int) (h0 : 0 ≤ j) (hm : j ≤ c) :
  ∀ W : World, (Instr.slice t (.slice A n c) none (some (.int kh j)) none).run P W = .ok (.slice A j.toNat c) W := by
 intro W
 have hel : P.elem t = e := by simp [Program.elem, ht]
 have hu : P.underlying t = some (.slice (P.elem t)) := by rw [hel]; exact ht
 have ha : (A.map fun x => x.add 0) = A := by cases A <;> simp [Addr.add]
 rw [run_slice_h W t A n c hu kh j h0 (by omega), hel]
 simp [sizeOf, typeInfo, hi, sliced, Result.andThen, ha]
theorem drawn_below {w w' : World} (h : Drawn0 w w') : Below w.heap.size w w' := by
 obtain ⟨n, rfl⟩ := h
 exact pw_below_drewN (Below.refl _ _) n
def LTo (l : List S55) (r1 : List S55) (r2 : Int) (w : World) (e : Ending) (w' : World) : Prop := ∃ (A1 : Option Addr) (c1 : Nat), e = .returned (.tuple #[.slice A1 r1.length c1, .int .i64 r2]) ∧ Kd.C k55 w' A1 r1.length r1 ∧ r1.length ≤ c1 ∧ Below w.heap.size w w'
set_option maxHeartbeats 8000000 in
set_option maxRecDepth 100000 in
theorem layersTo1 (k : Nat) (A0 : Option Addr) (c0 : Nat) (l : List S55) (a1 : Int) (b : Bool) (w : World) (hr0 : Kd.C k55 w A0 l.length l) (hc0 : l.length ≤ c0) (h161 : impl_IsProfile.f k l = some false) :
  Calls Try.prog 55 #[.slice A0 l.length c0, .int .i64 a1, .bool b] w fun e w' => LTo l [] 1 w e w' := by
 have HR0 := Aside0.mk hr0
 have HC0 := Aside0.mk hc0
 have HB := Aside0.mk (Below.refl w.heap.size w)
 clear hr0 hc0
 go_enter Try.func55, Try.ntmps55
 go_wp2_with (first | ((with_reducible refine gate_callee (f := 17) rfl ?_); refine goesL_ (some 10) rfl rfl Try.func17 (by kernel_rfl) rfl #[.slice A0 l.length c0] rfl (by (try simp only [List.map_toArray, List.map_cons, List.map_nil]); first | done | rfl | (go_simp; done) | simp) ?_; (with_reducible refine (impl_IsProfile.calls k _ _ l false _ ?side1 ?side2 h161).mono ?_); (case side1 => repeat (first | exact (Kd.C_below HR0.out (by repeat (first | (with_reducible first | exact HB.out | apply lA | apply lN | apply lD) | exact HB.out))) | (with_reducible first | apply cA | apply cN | apply cD))); (case side2 => exact HC0.out); rintro e w1 ⟨rfl, hb⟩; refine ⟨_, rfl, ?_⟩; have nb_ := Aside0.mk (below_step (by repeat (first | (with_reducible first | exact HB.out | apply lA | apply lN | apply lD) | exact HB.out)) hb); clear HB; have HB := nb_; clear nb_ hb))
 go_ret2
 exact ⟨none, 0, by first | rfl | (simp [errW_none, errW_some] <;> rfl) | (simp [*, errW_none, errW_some] <;> rfl), ⟨rfl, by simp, fun h => absurd h (by simp)⟩, by simp, by repeat (first | (with_reducible first | exact HB.out | apply lA | apply lN | apply lD) | exact HB.out)⟩

set_option maxHeartbeats 8000000 in
set_option maxRecDepth 100000 in
theorem layersTo2 (k : Nat) (A0 : Option Addr) (c0 : Nat) (l : List S55) (a1 : Int) (b t162 : Bool) (w : World) (hr0 : Kd.C k55 w A0 l.length l) (hc0 : l.length ≤ c0) (h161 : impl_IsProfile.f k l = some true) (h162 : impl_within.f a1 0 1000000 = some t162) (hbad : t162 = false ∨ b = false) :
  Calls Try.prog 55 #[.slice A0 l.length c0, .int .i64 a1, .bool b] w fun e w' => LTo l [] 2 w e w' := by
 have HR0 := Aside0.mk hr0
 have HC0 := Aside0.mk hc0
 have HB := Aside0.mk (Below.refl w.heap.size w)
 clear hr0 hc0
 rcases hbad with rfl | rfl
 ·
  go_enter Try.func55, Try.ntmps55
  go_wp2_with (first | ((with_reducible refine gate_callee (f := 17) rfl ?_); refine goesL_ (some 10) rfl rfl Try.func17 (by kernel_rfl) rfl #[.slice A0 l.length c0] rfl (by (try simp only [List.map_toArray, List.map_cons, List.map_nil]); first | done | rfl | (go_simp; done) | simp) ?_; (with_reducible refine (impl_IsProfile.calls k _ _ l true _ ?side1 ?side2 h161).mono ?_); (case side1 => repeat (first | exact (Kd.C_below HR0.out (by repeat (first | (with_reducible first | exact HB.out | apply lA | apply lN | apply lD) | exact HB.out))) | (with_reducible first | apply cA | apply cN | apply cD))); (case side2 => exact HC0.out); rintro e w1 ⟨rfl, hb⟩; refine ⟨_, rfl, ?_⟩; have nb_ := Aside0.mk (below_step (by repeat (first | (with_reducible first | exact HB.out | apply lA | apply lN | apply lD) | exact HB.out)) hb); clear HB; have HB := nb_; clear nb_ hb) | ((with_reducible refine gate_callee (f := 51) rfl ?_); refine goesL_ (some 13) rfl rfl Try.func51 (by kernel_rfl) rfl #[.int .i64 a1, .int .i64 0, .int .i64 1000000] rfl (by (try simp only [List.map_toArray, List.map_cons, List.map_nil]); first | done | rfl | (go_simp; done) | simp) ?_; (with_reducible refine (impl_within.calls _ _ _ false _ h162).mono ?_); rintro e w2 ⟨rfl, hd⟩; have hb := drawn_below hd; clear hd; refine ⟨_, rfl, ?_⟩; have nb_ := Aside0.mk (below_step (by repeat (first | (with_reducible first | exact HB.out | apply lA | apply lN | apply lD) | exact HB.out)) hb); clear HB; have HB := nb_; clear nb_ hb))
  go_ret2
  exact ⟨none, 0, by first | rfl | (simp [errW_none, errW_some] <;> rfl) | (simp [*, errW_none, errW_some] <;> rfl), ⟨rfl, by simp, fun h => absurd h (by simp)⟩, by simp, by repeat (first | (with_reducible first | exact HB.out | apply lA | apply lN | apply lD) | exact HB.out)⟩
 cases t162
 ·
  go_enter Try.func55, Try.ntmps55
  go_wp2_with (first | ((with_reducible refine gate_callee (f := 17) rfl ?_); refine goesL_ (some 10) rfl rfl Try.func17 (by kernel_rfl) rfl #[.slice A0 l.length c0] rfl (by (try simp only [List.map_toArray, List.map_cons, List.map_nil]); first | done | rfl | (go_simp; done) | simp) ?_; (with_reducible refine (impl_IsProfile.calls k _ _ l true _ ?side1 ?side2 h161).mono ?_); (case side1 => repeat (first | exact (Kd.C_below HR0.out (by repeat (first | (with_reducible first | exact HB.out | apply lA | apply lN | apply lD) | exact HB.out))) | (with_reducible first | apply cA | apply cN | apply cD))); (case side2 => exact HC0.out); rintro e w1 ⟨rfl, hb⟩; refine ⟨_, rfl, ?_⟩; have nb_ := Aside0.mk (below_step (by repeat (first | (with_reducible first | exact HB.out | apply lA | apply lN | apply lD) | exact HB.out)) hb); clear HB; have HB := nb_; clear nb_ hb) | ((with_reducible refine gate_callee (f := 51) rfl ?_); refine goesL_ (some 13) rfl rfl Try.func51 (by kernel_rfl) rfl #[.int .i64 a1, .int .i64 0, .int .i64 1000000] rfl (by (try simp only [List.map_toArray, List.map_cons, List.map_nil]); first | done | rfl | (go_simp; done) | simp) ?_; (with_reducible refine (impl_within.calls _ _ _ false _ h162).mono ?_); rintro e w2 ⟨rfl, hd⟩; have hb := drawn_below hd; clear hd; refine ⟨_, rfl, ?_⟩; have nb_ := Aside0.mk (below_step (by repeat (first | (with_reducible first | exact HB.out | apply lA | apply lN | apply lD) | exact HB.out)) hb); clear HB; have HB := nb_; clear nb_ hb))
  go_ret2
  exact ⟨none, 0, by first | rfl | (simp [errW_none, errW_some] <;> rfl) | (simp [*, errW_none, errW_some] <;> rfl), ⟨rfl, by simp, fun h => absurd h (by simp)⟩, by simp, by repeat (first | (with_reducible first | exact HB.out | apply lA | apply lN | apply lD) | exact HB.out)⟩
 ·
  go_enter Try.func55, Try.ntmps55
  go_wp2_with (first | ((with_reducible refine gate_callee (f := 17) rfl ?_); refine goesL_ (some 10) rfl rfl Try.func17 (by kernel_rfl) rfl #[.slice A0 l.length c0] rfl (by (try simp only [List.map_toArray, List.map_cons, List.map_nil]); first | done | rfl | (go_simp; done) | simp) ?_; (with_reducible refine (impl_IsProfile.calls k _ _ l true _ ?side1 ?side2 h161).mono ?_); (case side1 => repeat (first | exact (Kd.C_below HR0.out (by repeat (first | (with_reducible first | exact HB.out | apply lA | apply lN | apply lD) | exact HB.out))) | (with_reducible first | apply cA | apply cN | apply cD))); (case side2 => exact HC0.out); rintro e w1 ⟨rfl, hb⟩; refine ⟨_, rfl, ?_⟩; have nb_ := Aside0.mk (below_step (by repeat (first | (with_reducible first | exact HB.out | apply lA | apply lN | apply lD) | exact HB.out)) hb); clear HB; have HB := nb_; clear nb_ hb) | ((with_reducible refine gate_callee (f := 51) rfl ?_); refine goesL_ (some 13) rfl rfl Try.func51 (by kernel_rfl) rfl #[.int .i64 a1, .int .i64 0, .int .i64 1000000] rfl (by (try simp only [List.map_toArray, List.map_cons, List.map_nil]); first | done | rfl | (go_simp; done) | simp) ?_; (with_reducible refine (impl_within.calls _ _ _ true _ h162).mono ?_); rintro e w2 ⟨rfl, hd⟩; have hb := drawn_below hd; clear hd; refine ⟨_, rfl, ?_⟩; have nb_ := Aside0.mk (below_step (by repeat (first | (with_reducible first | exact HB.out | apply lA | apply lN | apply lD) | exact HB.out)) hb); clear HB; have HB := nb_; clear nb_ hb))
  go_ret2
  exact ⟨none, 0, by first | rfl | (simp [errW_none, errW_some] <;> rfl) | (simp [*, errW_none, errW_some] <;> rfl), ⟨rfl, by simp, fun h => absurd h (by simp)⟩, by simp, by repeat (first | (with_reducible first | exact HB.out | apply lA | apply lN | apply lD) | exact HB.out)⟩

set_option maxHeartbeats 8000000 in
set_option maxRecDepth 100000 in
theorem layersTo3 (k : Nat) (A0 : Option Addr) (c0 : Nat) (l : List S55) (a1 t163 : Int) (w : World) (hr0 : Kd.C k55 w A0 l.length l) (hc0 : l.length ≤ c0) (h161 : impl_IsProfile.f k l = some true) (h162 : impl_within.f a1 0 1000000 = some true) (h163 : impl_layerOf.f k l a1 = some t163) (hneg : t163 < 0) :
  Calls Try.prog 55 #[.slice A0 l.length c0, .int .i64 a1, .bool true] w fun e w' => LTo l [] 4 w e w' := by
 have HR0 := Aside0.mk hr0
 have HC0 := Aside0.mk hc0
 have HB := Aside0.mk (Below.refl w.heap.size w)
 have c1 : decide (t163 < 0) = true := decide_eq_true hneg
 clear hr0 hc0 hneg
 go_enter Try.func55, Try.ntmps55
 go_wp2_with (first | ((with_reducible refine gate_callee (f := 17) rfl ?_); refine goesL_ (some 10) rfl rfl Try.func17 (by kernel_rfl) rfl #[.slice A0 l.length c0] rfl (by (try simp only [List.map_toArray, List.map_cons, List.map_nil]); first | done | rfl | (go_simp; done) | simp) ?_; (with_reducible refine (impl_IsProfile.calls k _ _ l true _ ?side1 ?side2 h161).mono ?_); (case side1 => repeat (first | exact (Kd.C_below HR0.out (by repeat (first | (with_reducible first | exact HB.out | apply lA | apply lN | apply lD) | exact HB.out))) | (with_reducible first | apply cA | apply cN | apply cD))); (case side2 => exact HC0.out); rintro e w1 ⟨rfl, hb⟩; refine ⟨_, rfl, ?_⟩; have nb_ := Aside0.mk (below_step (by repeat (first | (with_reducible first | exact HB.out | apply lA | apply lN | apply lD) | exact HB.out)) hb); clear HB; have HB := nb_; clear nb_ hb) | ((with_reducible refine gate_callee (f := 51) rfl ?_); refine goesL_ (some 13) rfl rfl Try.func51 (by kernel_rfl) rfl #[.int .i64 a1, .int .i64 0, .int .i64 1000000] rfl (by (try simp only [List.map_toArray, List.map_cons, List.map_nil]); first | done | rfl | (go_simp; done) | simp) ?_; (with_reducible refine (impl_within.calls _ _ _ true _ h162).mono ?_); rintro e w2 ⟨rfl, hd⟩; have hb := drawn_below hd; clear hd; refine ⟨_, rfl, ?_⟩; have nb_ := Aside0.mk (below_step (by repeat (first | (with_reducible first | exact HB.out | apply lA | apply lN | apply lD) | exact HB.out)) hb); clear HB; have HB := nb_; clear nb_ hb) | ((with_reducible refine gate_callee (f := 60) rfl ?_); refine goesL_ (some 21) rfl rfl Try.func60 (by kernel_rfl) rfl #[.slice A0 l.length c0, .int .i64 a1] rfl (by (try simp only [List.map_toArray, List.map_cons, List.map_nil]); first | done | rfl | (go_simp; done) | simp) ?_; (with_reducible refine (impl_layerOf.calls k _ _ l a1 t163 _ ?side1 ?side2 h163).mono ?_); (case side1 => repeat (first | exact (Kd.C_below HR0.out (by repeat (first | (with_reducible first | exact HB.out | apply lA | apply lN | apply lD) | exact HB.out))) | (with_reducible first | apply cA | apply cN | apply cD))); (case side2 => exact HC0.out); rintro e w3 ⟨rfl, hb⟩; refine ⟨_, rfl, ?_⟩; have nb_ := Aside0.mk (below_step (by repeat (first | (with_reducible first | exact HB.out | apply lA | apply lN | apply lD) | exact HB.out)) hb); clear HB; have HB := nb_; clear nb_ hb))
 go_ret2
 exact ⟨none, 0, by first | rfl | (simp [errW_none, errW_some] <;> rfl) | (simp [*, errW_none, errW_some] <;> rfl), ⟨rfl, by simp, fun h => absurd h (by simp)⟩, by simp, by repeat (first | (with_reducible first | exact HB.out | apply lA | apply lN | apply lD) | exact HB.out)⟩

set_option maxHeartbeats 8000000 in
set_option maxRecDepth 100000 in
theorem layersTo4 (k : Nat) (A0 : Option Addr) (c0 : Nat) (l M : List S55) (a1 t163 : Int) (w : World) (hr0 : Kd.C k55 w A0 l.length l) (hc0 : l.length ≤ c0) (h161 : impl_IsProfile.f k l = some true) (h162 : impl_within.f a1 0 1000000 = some true) (h163 : impl_layerOf.f k l a1 = some t163) (h0 : 0 ≤ t163) (h1 : t163 < l.length) (h2 : l.length ≤ 9223372036854775807) (hM : M = l.take (t163 + 1).toNat) :
  Calls Try.prog 55 #[.slice A0 l.length c0, .int .i64 a1, .bool true] w fun e w' => LTo l M 0 w e w' := by
 have HR0 := Aside0.mk hr0
 have HC0 := Aside0.mk hc0
 have HB := Aside0.mk (Below.refl w.heap.size w)
 have c1 : decide (t163 < 0) = false := decide_eq_false (by omega)
 obtain ⟨i011, hi011, _, hsz11, _⟩ := info_parts info55
 have hw : wrap64 (t163 + 1) = t163 + 1 := by unfold wrap64; omega
 have hcut := cut_cap (P := Try.prog) 25 55 .i64 Try.underlying25 hi011 A0 l.length c0 (t163 + 1) (by omega) (by omega)
 have hMl : (t163 + 1).toNat = M.length := by rw [hM, List.length_take]; omega
 rw [hMl] at hcut
 have HM : ∀ {W : World}, Kd.C k55 W A0 l.length l → Kd.C k55 W A0 M.length M := by
  intro W h
  rw [hM]
  exact Kd.C_take (m := (t163 + 1).toNat) h (by omega)
 have hMc : M.length ≤ c0 := by omega
 obtain ⟨ji, hji⟩ : ∃ j_ : Int, t163 + 1 = j_ := ⟨_, rfl⟩
 have hj : IntKind.i64.wrap (t163 + 1) = ji := (i64_w _).trans (hw.trans hji)
 have hj2 : wrap64 (t163 + 1) = ji := hw.trans hji
 rw [hji] at hcut
 clear hr0 hc0 h0 h1 h2 hw hi011 hsz11 hM hMl hji
 go_enter Try.func55, Try.ntmps55
 go_wp2_with (first | ((with_reducible refine gate_callee (f := 17) rfl ?_); refine goesL_ (some 10) rfl rfl Try.func17 (by kernel_rfl) rfl #[.slice A0 l.length c0] rfl (by (try simp only [List.map_toArray, List.map_cons, List.map_nil]); first | done | rfl | (go_simp; done) | simp) ?_; (with_reducible refine (impl_IsProfile.calls k _ _ l true _ ?side1 ?side2 h161).mono ?_); (case side1 => repeat (first | exact (Kd.C_below HR0.out (by repeat (first | (with_reducible first | exact HB.out | apply lA | apply lN | apply lD) | exact HB.out))) | (with_reducible first | apply cA | apply cN | apply cD))); (case side2 => exact HC0.out); rintro e w1 ⟨rfl, hb⟩; refine ⟨_, rfl, ?_⟩; have nb_ := Aside0.mk (below_step (by repeat (first | (with_reducible first | exact HB.out | apply lA | apply lN | apply lD) | exact HB.out)) hb); clear HB; have HB := nb_; clear nb_ hb) | ((with_reducible refine gate_callee (f := 51) rfl ?_); refine goesL_ (some 13) rfl rfl Try.func51 (by kernel_rfl) rfl #[.int .i64 a1, .int .i64 0, .int .i64 1000000] rfl (by (try simp only [List.map_toArray, List.map_cons, List.map_nil]); first | done | rfl | (go_simp; done) | simp) ?_; (with_reducible refine (impl_within.calls _ _ _ true _ h162).mono ?_); rintro e w2 ⟨rfl, hd⟩; have hb := drawn_below hd; clear hd; refine ⟨_, rfl, ?_⟩; have nb_ := Aside0.mk (below_step (by repeat (first | (with_reducible first | exact HB.out | apply lA | apply lN | apply lD) | exact HB.out)) hb); clear HB; have HB := nb_; clear nb_ hb) | ((with_reducible refine gate_callee (f := 60) rfl ?_); refine goesL_ (some 21) rfl rfl Try.func60 (by kernel_rfl) rfl #[.slice A0 l.length c0, .int .i64 a1] rfl (by (try simp only [List.map_toArray, List.map_cons, List.map_nil]); first | done | rfl | (go_simp; done) | simp) ?_; (with_reducible refine (impl_layerOf.calls k _ _ l a1 t163 _ ?side1 ?side2 h163).mono ?_); (case side1 => repeat (first | exact (Kd.C_below HR0.out (by repeat (first | (with_reducible first | exact HB.out | apply lA | apply lN | apply lD) | exact HB.out))) | (with_reducible first | apply cA | apply cN | apply cD))); (case side2 => exact HC0.out); rintro e w3 ⟨rfl, hb⟩; refine ⟨_, rfl, ?_⟩; have nb_ := Aside0.mk (below_step (by repeat (first | (with_reducible first | exact HB.out | apply lA | apply lN | apply lD) | exact HB.out)) hb); clear HB; have HB := nb_; clear nb_ hb))
 go_ret2
 exact ⟨A0, c0, by first | rfl | (simp [errW_none, errW_some] <;> rfl) | (simp [*, errW_none, errW_some] <;> rfl), HM (by repeat (first | exact (Kd.C_below HR0.out (by repeat (first | (with_reducible first | exact HB.out | apply lA | apply lN | apply lD) | exact HB.out))) | (with_reducible first | apply cA | apply cN | apply cD))), hMc, by repeat (first | (with_reducible first | exact HB.out | apply lA | apply lN | apply lD) | exact HB.out)⟩

theorem layerOf_lt (h : Int) (l : List S55) : ∀ (k : Nat) (i t : Int), impl_layerOf.l0 k h l (l.length : Int) i = some t → t < (l.length : Int)
 | 0, i, t, e => by simp [impl_layerOf.l0] at e
 | k + 1, i, t, e => by
  unfold impl_layerOf.l0 at e
  repeat' split at e
  all_goals first
   | (simp at e; done)
   | (simp only [Option.some.injEq] at e; omega)
   | exact layerOf_lt h l k _ t e
theorem layersTo_len (k : Nat) (l : List S55) (a1 : Int) (b : Bool) (M : List S55) (er : Int) (h : impl_layersTo.f k l a1 b = some (M, er)) : M.length ≤ l.length := by
 have key : ∀ (k : Nat) (x : Bool), impl_layersTo.j0 k l a1 x = some (M, er) → M.length ≤ l.length := by
  intro k x e
  cases k with
  | zero => simp [impl_layersTo.j0] at e
  | succ k =>
   simp only [impl_layersTo.j0] at e
   split at e
   ·
    simp only [Option.some.injEq, Prod.mk.injEq] at e; rw [← e.1]; simp
   ·
    obtain ⟨t, _, e⟩ := Option.bind_eq_some_iff.mp e
    split at e
    ·
     simp only [Option.some.injEq, Prod.mk.injEq] at e; rw [← e.1]; simp
    ·
     simp only [Option.bind_some] at e
     split at e
     ·
      split at e
      ·
       split at e
       ·
        simp only [Option.some.injEq, Prod.mk.injEq, List.nil_append] at e; rw [← e.1, List.length_take]; omega
       ·
        exact absurd e (by simp)
      ·
       exact absurd e (by simp)
     ·
      exact absurd e (by simp)
 unfold impl_layersTo.f at h
 obtain ⟨t, _, h⟩ := Option.bind_eq_some_iff.mp h
 split at h
 ·
  obtain ⟨t2, _, h⟩ := Option.bind_eq_some_iff.mp h
  split at h <;> exact key _ _ h
 ·
  simp only [Option.some.injEq, Prod.mk.injEq] at h; rw [← h.1]; simp
theorem layersTo_own (k : Nat) (A0 : Option Addr) (c0 : Nat) (l : List S55) (a1 : Int) (b : Bool) (M : List S55) (er : Int) (w : World) (hr0 : Kd.C k55 w A0 l.length l) (hc0 : l.length ≤ c0) (h : impl_layersTo.f k l a1 b = some (M, er)) :
  Calls Try.prog 55 #[.slice A0 l.length c0, .int .i64 a1, .bool b] w fun e w' => LTo l M er w e w' := by
 unfold impl_layersTo.f at h
 obtain ⟨t, h1, h⟩ := Option.bind_eq_some_iff.mp h
 cases t with
 | false =>
  simp only [Bool.false_eq_true, if_false, Option.some.injEq, Prod.mk.injEq] at h
  obtain ⟨rfl, rfl⟩ := h
  exact layersTo1 k A0 c0 l a1 b w hr0 hc0 h1
 | true =>
  simp only [if_true] at h
  obtain ⟨t2, h2, h⟩ := Option.bind_eq_some_iff.mp h
  cases k with
  | zero => cases t2 <;> simp [impl_layersTo.j0] at h
  | succ k =>
   cases t2 with
   | false =>
    simp only [Bool.false_eq_true, if_false, impl_layersTo.j0, if_true, Option.some.injEq, Prod.mk.injEq] at h
    obtain ⟨rfl, rfl⟩ := h
    exact layersTo2 (k + 1) A0 c0 l a1 b false w hr0 hc0 h1 h2 (.inl rfl)
   | true =>
    cases b with
    | false =>
     simp only [if_true, impl_layersTo.j0, Bool.not_false, Option.some.injEq, Prod.mk.injEq] at h
     obtain ⟨rfl, rfl⟩ := h
     exact layersTo2 (k + 1) A0 c0 l a1 false true w hr0 hc0 h1 h2 (.inr rfl)
    | true =>
     simp only [if_true, impl_layersTo.j0, Bool.not_true, Bool.false_eq_true, if_false] at h
     obtain ⟨t3, h3, h⟩ := Option.bind_eq_some_iff.mp h
     have hlt := layerOf_lt a1 l k 0 t3 h3
     have hcap : l.length ≤ 9223372036854775807 := hr0.2.1
     have h3' := impl_layerOf.mono l a1 k t3 h3
     by_cases c : t3 < 0
     ·
      simp only [c, if_true, Option.some.injEq, Prod.mk.injEq] at h
      obtain ⟨rfl, rfl⟩ := h
      exact layersTo3 (k + 1) A0 c0 l a1 t3 w hr0 hc0 h1 h2 h3' c
     ·
      have hw : wrap64 (t3 + 1) = t3 + 1 := by unfold wrap64; omega
      simp only [c, if_false, Option.bind_some, hw] at h
      rw [if_pos (by omega), if_pos (by omega)] at h
      split at h
      ·
       simp only [Option.some.injEq, Prod.mk.injEq, List.nil_append] at h
       obtain ⟨hM_, hE_⟩ := h
       subst hE_
       exact layersTo4 (k + 1) A0 c0 l M a1 t3 w hr0 hc0 h1 h2 h3' (by omega) hlt hcap hM_.symm
      ·
       exact absurd h (by simp)
theorem layersTo_nil (k : Nat) (l : List S55) (a1 : Int) (b : Bool) (M : List S55) (er : Int) (h : impl_layersTo.f k l a1 b = some (M, er)) (he : er ≠ 0) : M = [] := by
 have key : ∀ (k : Nat) (x : Bool), impl_layersTo.j0 k l a1 x = some (M, er) → M = [] := by
  intro k x e
  cases k with
  | zero => simp [impl_layersTo.j0] at e
  | succ k =>
   simp only [impl_layersTo.j0] at e
   split at e
   ·
    simp only [Option.some.injEq, Prod.mk.injEq] at e; exact e.1.symm
   ·
    obtain ⟨t, _, e⟩ := Option.bind_eq_some_iff.mp e
    split at e
    ·
     simp only [Option.some.injEq, Prod.mk.injEq] at e; exact e.1.symm
    ·
     simp only [Option.bind_some] at e
     split at e
     ·
      split at e
      ·
       split at e
       ·
        simp only [Option.some.injEq, Prod.mk.injEq] at e; exact absurd e.2.symm he
       ·
        exact absurd e (by simp)
      ·
       exact absurd e (by simp)
     ·
      exact absurd e (by simp)
 unfold impl_layersTo.f at h
 obtain ⟨t, _, h⟩ := Option.bind_eq_some_iff.mp h
 split at h
 ·
  obtain ⟨t2, _, h⟩ := Option.bind_eq_some_iff.mp h
  split at h <;> exact key _ _ h
 ·
  simp only [Option.some.injEq, Prod.mk.injEq] at h; exact h.1.symm
theorem layersTo_off (k : Nat) (l : List S55) (a1 : Int) (M : List S55) (er : Int) (h : impl_layersTo.f k l a1 false = some (M, er)) : er ≠ 0 := by
 unfold impl_layersTo.f at h
 obtain ⟨t, _, h⟩ := Option.bind_eq_some_iff.mp h
 split at h
 ·
  obtain ⟨t2, _, h⟩ := Option.bind_eq_some_iff.mp h
  cases k with
  | zero => split at h <;> simp [impl_layersTo.j0] at h
  | succ k =>
   split at h <;> (simp only [impl_layersTo.j0, Bool.not_false, if_true, Option.some.injEq, Prod.mk.injEq] at h; rw [← h.2]; decide)
 ·
  simp only [Option.some.injEq, Prod.mk.injEq] at h; rw [← h.2]; decide

/-! ### impl_WindAt: function 20 -/
def impl_WindAt.f (k : Nat) (l0 : List (S55)) (a1 : Int) : Option (Int × Int × Int) := (impl_layersTo.f k l0 a1 true).bind fun bt139 => (if bt139.2 = 0 then (if 0 ≤ (wrap64 ((bt139.1.length : Int) - 1)) then (if (wrap64 ((bt139.1.length : Int) - 1)) < (bt139.1.length : Int) then (some ((rd_T55 bt139.1 (wrap64 ((bt139.1.length : Int) - 1))).f1, (rd_T55 bt139.1 (wrap64 ((bt139.1.length : Int) - 1))).f2, 0)) else (none)) else (none)) else (some (0, 0, bt139.2)))
theorem impl_WindAt.mono : ∀ a0 a1 k, LeO (impl_WindAt.f k a0 a1) (impl_WindAt.f (k + 1) a0 a1) := by
 intro a0 a1 k
 unfold impl_WindAt.f
 repeat' first
   | (with_reducible exact impl_layersTo.mono _ _ _ _)
   | (with_reducible exact LeO.refl _)
   | (with_reducible exact LeO.none _)
   | (with_reducible refine LeO.ite ?_ ?_)
   | (with_reducible refine LeO.bind ?_ (fun _ => ?_))
   | exact impl_layersTo.mono _ _ _ _
   | exact LeO.none _
   | refine LeO.ite ?_ ?_
   | refine LeO.bind ?_ (fun _ => ?_)
set_option maxHeartbeats 8000000 in
set_option maxRecDepth 100000 in
theorem windAt_ok (A0 : Option Addr) (c0 : Nat) (l M : List S55) (a1 : Int) (w : World) (hr0 : Kd.C k55 w A0 l.length l) (hTo : ∀ w, Kd.C k55 w A0 l.length l → Calls Try.prog 55 #[.slice A0 l.length c0, .int .i64 a1, .bool true] w fun e w' => LTo l M 0 w e w') (h1 : 1 ≤ M.length) (h2 : M.length ≤ 9223372036854775807) :
  Calls Try.prog 20 #[.slice A0 l.length c0, .int .i64 a1] w fun e w' => e = .returned (.tuple #[.int .i64 (rd_T55 M ((M.length : Int) - 1)).f1, .int .i64 (rd_T55 M ((M.length : Int) - 1)).f2, .int .i64 0]) ∧ Below w.heap.size w w' := by
 have hu55 := Try.underlying55
 have HR0 := Aside0.mk hr0
 have HB := Aside0.mk (Below.refl w.heap.size w)
 obtain ⟨ji, hji⟩ : ∃ j_ : Int, (M.length : Int) - 1 = j_ := ⟨_, rfl⟩
 have hw : wrap64 ((M.length : Int) - 1) = ji := by unfold wrap64; omega
 have hjw : IntKind.i64.wrap ((M.length : Int) - 1) = ji := (i64_w _).trans hw
 have c6b0 : decide (0 ≤ ji) = true := decide_eq_true (by omega)
 have c7b0 : decide (ji < (M.length : Int)) = true := decide_eq_true (by omega)
 have p171 := eq_true (show 0 ≤ ji by omega)
 have q171 := eq_true (show ji < (M.length : Int) by omega)
 rw [hji]
 clear hr0 h1 h2 hji hw
 go_enter Try.func20, Try.ntmps20
 go_wp2_with (first | ((with_reducible refine gate_callee (f := 55) rfl ?_); refine goesL_ (some 13) rfl rfl Try.func55 (by kernel_rfl) rfl #[.slice A0 l.length c0, .int .i64 a1, .bool true] rfl (by (try simp only [List.map_toArray, List.map_cons, List.map_nil]); first | done | rfl | (go_simp; done) | simp) ?_; (with_reducible refine (hTo _ ?side1).mono ?_); (case side1 => repeat (first | exact (Kd.C_below HR0.out (by repeat (first | (with_reducible first | exact HB.out | apply lA | apply lN | apply lD) | exact HB.out))) | (with_reducible first | apply cA | apply cN | apply cD))); rintro e w1 ⟨A1, c1, rfl, hC, hcc, hb⟩; have HK := Aside0.mk hC; clear hC hcc; refine ⟨_, rfl, ?_⟩; have nb_ := Aside0.mk (below_step (by repeat (first | (with_reducible first | exact HB.out | apply lA | apply lN | apply lD) | exact HB.out)) hb); clear HB; have HB := nb_; clear nb_ hb; obtain ⟨ad171, e171, hx171_0, hx171_1, hx171_2⟩ := at_T55 HK.out ji (of_eq_true p171) (of_eq_true q171); cases e171) | ((with_reducible refine gate_dst (N := 9) rfl ?_); refine box_event ?hg (N := 9) ?hd (cs := #[.int .i64 0, .int .i64 0, .int .i64 0]) (t := 55) ?hr ?_; (case hd => rfl); (case hg => rfl); (case hr => first | (go_simp; done) | (go_simp; rfl)); intro gb172 hg w11 hbox hb; have GE172 := Aside0.mk ((by rw [hg]; exact (below_size (by repeat (first | (with_reducible first | exact HB.out | apply lA | apply lN | apply lD) | exact HB.out)))) : w.heap.size ≤ gb172); have nb_ := Aside0.mk (below_step (by repeat (first | (with_reducible first | exact HB.out | apply lA | apply lN | apply lD) | exact HB.out)) hb); clear HB; have HB := nb_; clear nb_ hb; have BK172 := Aside0.mk hbox; clear hbox hg; have hcz12_0 : w11.cell? ⟨gb172, 0, none⟩ = some (.int .i64 0) := (blk_cell BK172.out 0).trans rfl; have hcz12_1 : w11.cell? ⟨gb172, 1, none⟩ = some (.int .i64 0) := (blk_cell BK172.out 1).trans rfl; have hcz12_2 : w11.cell? ⟨gb172, 2, none⟩ = some (.int .i64 0) := (blk_cell BK172.out 2).trans rfl; have hfz12_0 := blk_frozen BK172.out 0; have hfz12_1 := blk_frozen BK172.out 1; have hfz12_2 := blk_frozen BK172.out 2))
 repeat (go_quiet (first | ((with_reducible refine gate_callee (f := 55) rfl ?_); refine goesL_ (some 13) rfl rfl Try.func55 (by kernel_rfl) rfl #[.slice A0 l.length c0, .int .i64 a1, .bool true] rfl (by (try simp only [List.map_toArray, List.map_cons, List.map_nil]); first | done | rfl | (go_simp; done) | simp) ?_; (with_reducible refine (hTo _ ?side1).mono ?_); (case side1 => repeat (first | exact (Kd.C_below HR0.out (by repeat (first | (with_reducible first | exact HB.out | apply lA | apply lN | apply lD) | exact HB.out))) | (with_reducible first | apply cA | apply cN | apply cD))); rintro e w1 ⟨A1, c1, rfl, hC, hcc, hb⟩; have HK := Aside0.mk hC; clear hC hcc; refine ⟨_, rfl, ?_⟩; have nb_ := Aside0.mk (below_step (by repeat (first | (with_reducible first | exact HB.out | apply lA | apply lN | apply lD) | exact HB.out)) hb); clear HB; have HB := nb_; clear nb_ hb; obtain ⟨ad171, e171, hx171_0, hx171_1, hx171_2⟩ := at_T55 HK.out ji (of_eq_true p171) (of_eq_true q171); cases e171) | ((with_reducible refine gate_dst (N := 9) rfl ?_); refine box_event ?hg (N := 9) ?hd (cs := #[.int .i64 0, .int .i64 0, .int .i64 0]) (t := 55) ?hr ?_; (case hd => rfl); (case hg => rfl); (case hr => first | (go_simp; done) | (go_simp; rfl)); intro gb172 hg w11 hbox hb; have GE172 := Aside0.mk ((by rw [hg]; exact (below_size (by repeat (first | (with_reducible first | exact HB.out | apply lA | apply lN | apply lD) | exact HB.out)))) : w.heap.size ≤ gb172); have nb_ := Aside0.mk (below_step (by repeat (first | (with_reducible first | exact HB.out | apply lA | apply lN | apply lD) | exact HB.out)) hb); clear HB; have HB := nb_; clear nb_ hb; have BK172 := Aside0.mk hbox; clear hbox hg; have hcz12_0 : w11.cell? ⟨gb172, 0, none⟩ = some (.int .i64 0) := (blk_cell BK172.out 0).trans rfl; have hcz12_1 : w11.cell? ⟨gb172, 1, none⟩ = some (.int .i64 0) := (blk_cell BK172.out 1).trans rfl; have hcz12_2 : w11.cell? ⟨gb172, 2, none⟩ = some (.int .i64 0) := (blk_cell BK172.out 2).trans rfl; have hfz12_0 := blk_frozen BK172.out 0; have hfz12_1 := blk_frozen BK172.out 1; have hfz12_2 := blk_frozen BK172.out 2)); try go_wp2_with (first | ((with_reducible refine gate_callee (f := 55) rfl ?_); refine goesL_ (some 13) rfl rfl Try.func55 (by kernel_rfl) rfl #[.slice A0 l.length c0, .int .i64 a1, .bool true] rfl (by (try simp only [List.map_toArray, List.map_cons, List.map_nil]); first | done | rfl | (go_simp; done) | simp) ?_; (with_reducible refine (hTo _ ?side1).mono ?_); (case side1 => repeat (first | exact (Kd.C_below HR0.out (by repeat (first | (with_reducible first | exact HB.out | apply lA | apply lN | apply lD) | exact HB.out))) | (with_reducible first | apply cA | apply cN | apply cD))); rintro e w1 ⟨A1, c1, rfl, hC, hcc, hb⟩; have HK := Aside0.mk hC; clear hC hcc; refine ⟨_, rfl, ?_⟩; have nb_ := Aside0.mk (below_step (by repeat (first | (with_reducible first | exact HB.out | apply lA | apply lN | apply lD) | exact HB.out)) hb); clear HB; have HB := nb_; clear nb_ hb; obtain ⟨ad171, e171, hx171_0, hx171_1, hx171_2⟩ := at_T55 HK.out ji (of_eq_true p171) (of_eq_true q171); cases e171) | ((with_reducible refine gate_dst (N := 9) rfl ?_); refine box_event ?hg (N := 9) ?hd (cs := #[.int .i64 0, .int .i64 0, .int .i64 0]) (t := 55) ?hr ?_; (case hd => rfl); (case hg => rfl); (case hr => first | (go_simp; done) | (go_simp; rfl)); intro gb172 hg w11 hbox hb; have GE172 := Aside0.mk ((by rw [hg]; exact (below_size (by repeat (first | (with_reducible first | exact HB.out | apply lA | apply lN | apply lD) | exact HB.out)))) : w.heap.size ≤ gb172); have nb_ := Aside0.mk (below_step (by repeat (first | (with_reducible first | exact HB.out | apply lA | apply lN | apply lD) | exact HB.out)) hb); clear HB; have HB := nb_; clear nb_ hb; have BK172 := Aside0.mk hbox; clear hbox hg; have hcz12_0 : w11.cell? ⟨gb172, 0, none⟩ = some (.int .i64 0) := (blk_cell BK172.out 0).trans rfl; have hcz12_1 : w11.cell? ⟨gb172, 1, none⟩ = some (.int .i64 0) := (blk_cell BK172.out 1).trans rfl; have hcz12_2 : w11.cell? ⟨gb172, 2, none⟩ = some (.int .i64 0) := (blk_cell BK172.out 2).trans rfl; have hfz12_0 := blk_frozen BK172.out 0; have hfz12_1 := blk_frozen BK172.out 1; have hfz12_2 := blk_frozen BK172.out 2)))
 go_ret3
 exact ⟨by first | rfl | (simp [errW_none, errW_some] <;> rfl) | (simp [*, errW_none, errW_some] <;> rfl), by repeat (first | (with_reducible first | exact HB.out | apply lA | apply lN | apply lD | refine below_set ?_ GE172.out) | exact HB.out)⟩
set_option maxHeartbeats 8000000 in
set_option maxRecDepth 100000 in
theorem windAt_no (A0 : Option Addr) (c0 : Nat) (l : List S55) (a1 er : Int) (w : World) (hr0 : Kd.C k55 w A0 l.length l) (hTo : ∀ w, Kd.C k55 w A0 l.length l → Calls Try.prog 55 #[.slice A0 l.length c0, .int .i64 a1, .bool true] w fun e w' => LTo l [] er w e w') (h1 : er ≠ 0) :
  Calls Try.prog 20 #[.slice A0 l.length c0, .int .i64 a1] w fun e w' => e = .returned (.tuple #[.int .i64 0, .int .i64 0, .int .i64 er]) ∧ Below w.heap.size w w' := by
 have HR0 := Aside0.mk hr0
 have HB := Aside0.mk (Below.refl w.heap.size w)
 have c4b0 : (er == 0) = false := beq_eq_false_iff_ne.mpr h1
 have c4b1 : (er != 0) = true := bne_iff_ne.mpr h1
 clear hr0 h1
 go_enter Try.func20, Try.ntmps20
 go_wp2_with (first | ((with_reducible refine gate_callee (f := 55) rfl ?_); refine goesL_ (some 13) rfl rfl Try.func55 (by kernel_rfl) rfl #[.slice A0 l.length c0, .int .i64 a1, .bool true] rfl (by (try simp only [List.map_toArray, List.map_cons, List.map_nil]); first | done | rfl | (go_simp; done) | simp) ?_; (with_reducible refine (hTo _ ?side1).mono ?_); (case side1 => repeat (first | exact (Kd.C_below HR0.out (by repeat (first | (with_reducible first | exact HB.out | apply lA | apply lN | apply lD) | exact HB.out))) | (with_reducible first | apply cA | apply cN | apply cD))); rintro e w1 ⟨A1, c1, rfl, hC, hcc, hb⟩; clear hC hcc; refine ⟨_, rfl, ?_⟩; have nb_ := Aside0.mk (below_step (by repeat (first | (with_reducible first | exact HB.out | apply lA | apply lN | apply lD) | exact HB.out)) hb); clear HB; have HB := nb_; clear nb_ hb))
 go_ret3
 exact ⟨by first | rfl | (simp [errW_none, errW_some] <;> rfl) | (simp [*, errW_none, errW_some] <;> rfl), by repeat (first | (with_reducible first | exact HB.out | apply lA | apply lN | apply lD) | exact HB.out)⟩

theorem impl_WindAt.calls (k : Nat) (A0 : Option Addr) (c0 : Nat) (l0 : List (S55)) (a1 : Int) (r1 : Int) (r2 : Int) (r3 : Int) (w : World) (hr0 : Kd.C k55 w A0 l0.length l0) (hc0 : l0.length ≤ c0) (h : impl_WindAt.f k l0 a1 = some (r1, r2, r3)) :
  Calls Try.prog 20 #[.slice A0 l0.length c0, .int .i64 a1] w fun e w' => e = .returned (.tuple #[.int .i64 r1, .int .i64 r2, .int .i64 r3]) ∧ Below w.heap.size w w' := by
 obtain ⟨⟨M, er⟩, hT, h⟩ := Option.bind_eq_some_iff.mp h
 have hTo := fun w hC => layersTo_own k A0 c0 l0 a1 true M er w hC hc0 hT
 have hMl := layersTo_len k l0 a1 true M er hT
 have hcap : l0.length ≤ 9223372036854775807 := hr0.2.1
 by_cases e : er = 0
 ·
  subst e
  simp only [if_true] at h
  by_cases g : M.length = 0
  ·
   rw [g, show wrap64 (((0 : Nat) : Int) - 1) = -1 from by unfold wrap64; omega, if_neg (by decide)] at h
   exact absurd h (by simp)
  have hw : wrap64 ((M.length : Int) - 1) = (M.length : Int) - 1 := by unfold wrap64; omega
  rw [hw, if_pos (by omega), if_pos (by omega)] at h
  simp only [Option.some.injEq, Prod.mk.injEq] at h
  obtain ⟨rfl, rfl, rfl⟩ := h
  have hM : M ≠ [] := by intro z; simp [z] at g
  obtain ⟨t, rfl⟩ : ∃ t, t = M := ⟨_, rfl⟩
  exact windAt_ok A0 c0 l0 t a1 w hr0 hTo (by omega) (by omega)
 ·
  simp only [e, if_false, Option.some.injEq, Prod.mk.injEq] at h
  obtain ⟨rfl, rfl, rfl⟩ := h
  have hM : M = [] := layersTo_nil k l0 a1 true M er hT e
  subst hM
  exact windAt_no A0 c0 l0 a1 er w hr0 hTo e

/-! ### spec_l05Widest: function 56 -/
def spec_l05Widest.l0 : Nat → List (S55) → Int → Int → Int → Int → Option (Int × Int)
 | 0, _, _, _, _, _ => none
 | k + 1, x0, x1, x6, x7, x8 => (spec_l05Find.f k x0 x1).bind fun t147 => (if x8 ≤ t147 then (if 0 ≤ x8 then (if x8 < (x0.length : Int) then (spec_l05Widest.l0 k x0 x1 (mn x6 ((rd_T55 x0 x8).f1)) (mx x7 ((rd_T55 x0 x8).f2)) (wrap64 (x8 + 1))) else (none)) else (none)) else (some (x6, x7)))
def spec_l05Widest.f (k : Nat) (l0 : List (S55)) (a1 : Int) : Option (Int × Int) := if 0 < (l0.length : Int) then (spec_l05Widest.l0 k l0 a1 ((rd_T55 l0 0).f1) ((rd_T55 l0 0).f2) 0) else (none)
theorem spec_l05Widest.mono_l : ∀ k, (∀ y0 y1 y2 y3 y4, LeO (spec_l05Widest.l0 k y0 y1 y2 y3 y4) (spec_l05Widest.l0 (k + 1) y0 y1 y2 y3 y4))
 | 0 => fun _ _ _ _ _ r h => by simp [spec_l05Widest.l0] at h
 | k + 1 => by
  have ih0 := spec_l05Widest.mono_l k
  ·
   intro y0 y1 y2 y3 y4
   unfold spec_l05Widest.l0
   repeat' first
   | (with_reducible exact ih0 _ _ _ _ _)
   | (with_reducible exact spec_l05Find.mono _ _ _)
   | (with_reducible exact LeO.refl _)
   | (with_reducible exact LeO.none _)
   | (with_reducible refine LeO.ite ?_ ?_)
   | (with_reducible refine LeO.bind ?_ (fun _ => ?_))
   | exact ih0 _ _ _ _ _
   | exact spec_l05Find.mono _ _ _
   | exact LeO.none _
   | refine LeO.ite ?_ ?_
   | refine LeO.bind ?_ (fun _ => ?_)
theorem spec_l05Widest.mono : ∀ a0 a1 k, LeO (spec_l05Widest.f k a0 a1) (spec_l05Widest.f (k + 1) a0 a1) := by
 intro a0 a1 k
 have ih0 := spec_l05Widest.mono_l k
 unfold spec_l05Widest.f
 repeat' first
   | (with_reducible exact ih0 _ _ _ _ _)
   | (with_reducible exact spec_l05Find.mono _ _ _)
   | (with_reducible exact LeO.refl _)
   | (with_reducible exact LeO.none _)
   | (with_reducible refine LeO.ite ?_ ?_)
   | (with_reducible refine LeO.bind ?_ (fun _ => ?_))
   | exact ih0 _ _ _ _ _
   | exact spec_l05Find.mono _ _ _
   | exact LeO.none _
   | refine LeO.ite ?_ ?_
   | refine LeO.bind ?_ (fun _ => ?_)
set_option maxHeartbeats 8000000 in
set_option maxRecDepth 100000 in
theorem spec_l05Widest.calls (k : Nat) (A0 : Option Addr) (c0 : Nat) (l0 : List (S55)) (a1 : Int) (r1 : Int) (r2 : Int) (w : World) (hr0 : Kd.C k55 w A0 l0.length l0) (hc0 : l0.length ≤ c0) (h : spec_l05Widest.f k l0 a1 = some (r1, r2)) :
  Calls Try.prog 56 #[.slice A0 l0.length c0, .int .i64 a1] w fun e w' => e = .returned (.tuple #[.int .i64 r1, .int .i64 r2]) ∧ Below w.heap.size w w' := by
 have HR0 := Aside0.mk hr0
 have HC0 := Aside0.mk hc0
 clear hr0 hc0
 have HB := Aside0.mk (Below.refl w.heap.size w)
 have H : (if 0 < (l0.length : Int) then (spec_l05Widest.l0 k l0 a1 ((rd_T55 l0 0).f1) ((rd_T55 l0 0).f2) 0) else (none)) = some (r1, r2) := h
 clear h
 by_cases c3 : 0 < (l0.length : Int)
 ·
  rw [if_pos c3] at H
  have c3b0 : decide (0 < (l0.length : Int)) = true := decide_eq_true c3
  have c3b1 : decide (0 < l0.length) = true := decide_eq_true (by omega)
  clear c3
  have H' := Aside0.mk H
  clear H
  have p145 : 0 ≤ (0 : Int) := (by omega)
  have q145 : 0 < (l0.length : Int) := of_decide_eq_true (by with_reducible assumption)
  obtain ⟨ad145, e145, hx145_0, hx145_1, hx145_2⟩ := at_T55 HR0.out 0 p145 q145
  cases e145
  have qi145 : (0 < l0.length) = True := eq_true (by omega)
  (try rw [show ((0 : Int)).toNat = 0 from rfl] at hx145_0)
  (try rw [show 0 * 3 = 0 from rfl] at hx145_0)
  (try rw [Addr.add_zero'] at hx145_0)
  (try rw [show ((0 : Int)).toNat = 0 from rfl] at hx145_1)
  (try rw [show 0 * 3 = 0 from rfl] at hx145_1)
  (try rw [Addr.add_zero'] at hx145_1)
  (try rw [show ((0 : Int)).toNat = 0 from rfl] at hx145_2)
  (try rw [show 0 * 3 = 0 from rfl] at hx145_2)
  (try rw [Addr.add_zero'] at hx145_2)
  replace p145 := eq_true p145
  replace q145 := eq_true q145
  have p146 : 0 ≤ (0 : Int) := (by omega)
  have q146 : 0 < (l0.length : Int) := of_decide_eq_true (by with_reducible assumption)
  obtain ⟨ad146, e146, hx146_0, hx146_1, hx146_2⟩ := at_T55 HR0.out 0 p146 q146
  obtain rfl : ad145 = ad146 := (by injection e146)
  have qi146 : (0 < l0.length) = True := eq_true (by omega)
  (try rw [show ((0 : Int)).toNat = 0 from rfl] at hx146_0)
  (try rw [show 0 * 3 = 0 from rfl] at hx146_0)
  (try rw [Addr.add_zero'] at hx146_0)
  (try rw [show ((0 : Int)).toNat = 0 from rfl] at hx146_1)
  (try rw [show 0 * 3 = 0 from rfl] at hx146_1)
  (try rw [Addr.add_zero'] at hx146_1)
  (try rw [show ((0 : Int)).toNat = 0 from rfl] at hx146_2)
  (try rw [show 0 * 3 = 0 from rfl] at hx146_2)
  (try rw [Addr.add_zero'] at hx146_2)
  replace p146 := eq_true p146
  replace q146 := eq_true q146
  go_enter Try.func56, Try.ntmps56
  go_wp2
  repeat (go_quiet (fail); try go_wp2)
  go_loopg [6, 7, 8] k (fun kq v6 v7 v8 w' => ∃ (x6_1 : Int) (x7_1 : Int) (x8_1 : Int), v6 = .int .i64 x6_1 ∧ v7 = .int .i64 x7_1 ∧ v8 = .int .i64 x8_1 ∧ Aside0 (spec_l05Widest.l0 kq l0 a1 x6_1 x7_1 x8_1 = some (r1, r2)) ∧ Aside0 (kq ≤ k) ∧ Aside0 (Below w.heap.size w w'))
  case atStart => exact ⟨((rd_T55 l0 0).f1), ((rd_T55 l0 0).f2), (0), (by first | rfl | (simp; done) | (simp [*]; done)), (by first | rfl | (simp; done) | (simp [*]; done)), (by first | rfl | (simp; done) | (simp [*]; done)), H', ⟨Nat.le_refl _⟩, ⟨by repeat (first | (with_reducible first | exact HB.out | apply lA | apply lN | apply lD) | exact HB.out)⟩⟩
  case round =>
   clear H'
   try clear p1
   try clear q1
   try clear hx1
   try clear qi1
   try clear p2
   try clear c3
   try clear c3b0
   try clear c3b1
   try clear hx145_0
   try clear hx145_1
   try clear hx145_2
   try clear hx146_0
   try clear hx146_1
   try clear hx146_2
   try clear p145
   try clear p146
   try clear q145
   try clear q146
   obtain ⟨x6_1, x7_1, x8_1, rfl, rfl, rfl, HA, HK1, HB⟩ := hrel
   cases gk with
   | zero => exact absurd HA.out (by simp [spec_l05Widest.l0])
   | succ k1 =>
    have H := HA.out
    clear HA
    simp only [spec_l05Widest.l0] at H
    replace H := Option.bind_eq_some_iff.mp H
    obtain ⟨t147, A40, H⟩ := H
    replace H : (if x8_1 ≤ t147 then (if 0 ≤ x8_1 then (if x8_1 < (l0.length : Int) then (spec_l05Widest.l0 k1 l0 a1 (mn x6_1 ((rd_T55 l0 x8_1).f1)) (mx x7_1 ((rd_T55 l0 x8_1).f2)) (wrap64 (x8_1 + 1))) else (none)) else (none)) else (some (x6_1, x7_1))) = some (r1, r2) := H
    have A4 := Aside0.mk A40
    clear A40
    by_cases c5 : x8_1 ≤ t147
    ·
     rw [if_pos c5] at H
     have c5b0 : decide (x8_1 ≤ t147) = true := decide_eq_true c5
     clear c5
     by_cases c6 : 0 ≤ x8_1
     ·
      rw [if_pos c6] at H
      have c6b0 : decide (0 ≤ x8_1) = true := decide_eq_true c6
      clear c6
      by_cases c7 : x8_1 < (l0.length : Int)
      ·
       rw [if_pos c7] at H
       have c7b0 : decide (x8_1 < (l0.length : Int)) = true := decide_eq_true c7
       clear c7
       obtain ⟨ji8, hji8⟩ : ∃ j_ : Int, (mn x6_1 ((rd_T55 l0 x8_1).f1)) = j_ := ⟨_, rfl⟩
       replace H : (spec_l05Widest.l0 k1 l0 a1 ji8 (mx x7_1 ((rd_T55 l0 x8_1).f2)) (wrap64 (x8_1 + 1))) = some (r1, r2) := by first | (rw [hji8] at H; exact H) | (simp only [hji8] at H ⊢; exact H)
       (try rw [hji8] at A4)
       have hji8_ : (if ((rd_T55 l0 x8_1).f1) < x6_1 then ((rd_T55 l0 x8_1).f1) else x6_1) = ji8 := hji8
       obtain ⟨ji9, hji9⟩ : ∃ j_ : Int, (mx x7_1 ((rd_T55 l0 x8_1).f2)) = j_ := ⟨_, rfl⟩
       replace H : (spec_l05Widest.l0 k1 l0 a1 ji8 ji9 (wrap64 (x8_1 + 1))) = some (r1, r2) := by first | (rw [hji9] at H; exact H) | (simp only [hji9] at H ⊢; exact H)
       (try rw [hji9] at A4)
       have hji9_ : (if x7_1 < ((rd_T55 l0 x8_1).f2) then ((rd_T55 l0 x8_1).f2) else x7_1) = ji9 := hji9
       have H' := Aside0.mk H
       clear H
       go_wp2_with (first | (go_at_call 54; (with_reducible refine (spec_l05Find.calls k1 _ _ l0 a1 t147 _ ?side1 ?side2 A4.out).mono ?_); (case side1 => repeat (first | exact (Kd.C_below HR0.out HB.out) | (with_reducible first | apply cA | apply cN | apply cD))); (case side2 => exact HC0.out); rintro e w' ⟨rfl, ⟨nd, rfl⟩⟩; (try first | exact ⟨rfl, _, World.drewN_drewN _ _ _⟩ | exact ⟨rfl, _, Eq.trans (World.drewN_drewN _ _ _) (congrArg (World.drewN _) (Nat.add_assoc _ _ _))⟩); have p148 : 0 ≤ (x8_1 : Int) := of_decide_eq_true (by with_reducible assumption); have q148 : x8_1 < (l0.length : Int) := of_decide_eq_true (by with_reducible assumption); obtain ⟨ad148, e148, hx148_0, hx148_1, hx148_2⟩ := at_T55 HR0.out x8_1 p148 q148; obtain rfl : ad145 = ad148 := (by injection e148); replace hx148_0 := cB HB.out hx148_0; replace hx148_1 := cB HB.out hx148_1; replace hx148_2 := cB HB.out hx148_2; replace p148 := eq_true p148; replace q148 := eq_true q148; have p149 : 0 ≤ (x8_1 : Int) := of_decide_eq_true (by with_reducible assumption); have q149 : x8_1 < (l0.length : Int) := of_decide_eq_true (by with_reducible assumption); obtain ⟨ad149, e149, hx149_0, hx149_1, hx149_2⟩ := at_T55 HR0.out x8_1 p149 q149; obtain rfl : ad145 = ad149 := (by injection e149); replace hx149_0 := cB HB.out hx149_0; replace hx149_1 := cB HB.out hx149_1; replace hx149_2 := cB HB.out hx149_2; replace p149 := eq_true p149; replace q149 := eq_true q149))
       repeat (go_quiet (first | (go_at_call 54; (with_reducible refine (spec_l05Find.calls k1 _ _ l0 a1 t147 _ ?side1 ?side2 A4.out).mono ?_); (case side1 => repeat (first | exact (Kd.C_below HR0.out HB.out) | (with_reducible first | apply cA | apply cN | apply cD))); (case side2 => exact HC0.out); rintro e w' ⟨rfl, ⟨nd, rfl⟩⟩; (try first | exact ⟨rfl, _, World.drewN_drewN _ _ _⟩ | exact ⟨rfl, _, Eq.trans (World.drewN_drewN _ _ _) (congrArg (World.drewN _) (Nat.add_assoc _ _ _))⟩); have p148 : 0 ≤ (x8_1 : Int) := of_decide_eq_true (by with_reducible assumption); have q148 : x8_1 < (l0.length : Int) := of_decide_eq_true (by with_reducible assumption); obtain ⟨ad148, e148, hx148_0, hx148_1, hx148_2⟩ := at_T55 HR0.out x8_1 p148 q148; obtain rfl : ad145 = ad148 := (by injection e148); replace hx148_0 := cB HB.out hx148_0; replace hx148_1 := cB HB.out hx148_1; replace hx148_2 := cB HB.out hx148_2; replace p148 := eq_true p148; replace q148 := eq_true q148; have p149 : 0 ≤ (x8_1 : Int) := of_decide_eq_true (by with_reducible assumption); have q149 : x8_1 < (l0.length : Int) := of_decide_eq_true (by with_reducible assumption); obtain ⟨ad149, e149, hx149_0, hx149_1, hx149_2⟩ := at_T55 HR0.out x8_1 p149 q149; obtain rfl : ad145 = ad149 := (by injection e149); replace hx149_0 := cB HB.out hx149_0; replace hx149_1 := cB HB.out hx149_1; replace hx149_2 := cB HB.out hx149_2; replace p149 := eq_true p149; replace q149 := eq_true q149)); try go_wp2_with (first | (go_at_call 54; (with_reducible refine (spec_l05Find.calls k1 _ _ l0 a1 t147 _ ?side1 ?side2 A4.out).mono ?_); (case side1 => repeat (first | exact (Kd.C_below HR0.out HB.out) | (with_reducible first | apply cA | apply cN | apply cD))); (case side2 => exact HC0.out); rintro e w' ⟨rfl, ⟨nd, rfl⟩⟩; (try first | exact ⟨rfl, _, World.drewN_drewN _ _ _⟩ | exact ⟨rfl, _, Eq.trans (World.drewN_drewN _ _ _) (congrArg (World.drewN _) (Nat.add_assoc _ _ _))⟩); have p148 : 0 ≤ (x8_1 : Int) := of_decide_eq_true (by with_reducible assumption); have q148 : x8_1 < (l0.length : Int) := of_decide_eq_true (by with_reducible assumption); obtain ⟨ad148, e148, hx148_0, hx148_1, hx148_2⟩ := at_T55 HR0.out x8_1 p148 q148; obtain rfl : ad145 = ad148 := (by injection e148); replace hx148_0 := cB HB.out hx148_0; replace hx148_1 := cB HB.out hx148_1; replace hx148_2 := cB HB.out hx148_2; replace p148 := eq_true p148; replace q148 := eq_true q148; have p149 : 0 ≤ (x8_1 : Int) := of_decide_eq_true (by with_reducible assumption); have q149 : x8_1 < (l0.length : Int) := of_decide_eq_true (by with_reducible assumption); obtain ⟨ad149, e149, hx149_0, hx149_1, hx149_2⟩ := at_T55 HR0.out x8_1 p149 q149; obtain rfl : ad145 = ad149 := (by injection e149); replace hx149_0 := cB HB.out hx149_0; replace hx149_1 := cB HB.out hx149_1; replace hx149_2 := cB HB.out hx149_2; replace p149 := eq_true p149; replace q149 := eq_true q149)))
       go_roundg k1
       case measure => have := HK1.out; omega
       case rel => exact ⟨(ji8), (ji9), (wrap64 (x8_1 + 1)), (by first | rfl | (simp; done) | (simp only [← hji8] <;> (first | rfl | simp)) | (simp [*]; done)), (by first | rfl | (simp; done) | (simp only [← hji9] <;> (first | rfl | simp)) | (simp [*]; done)), (by first | rfl | (simp; done) | (simp [*]; done)), (by first | exact H' | (simp only [hji8, hji9]; exact H') | (have H2_ := H'; simp only [← hji8, ← hji9] at H2_; exact H2_)), ⟨by have := HK1.out; omega⟩, ⟨by repeat (first | (with_reducible first | exact HB.out | apply lA | apply lN | apply lD) | exact HB.out)⟩⟩
      ·
       rw [if_neg c7] at H
       exact absurd H (by simp)
     ·
      rw [if_neg c6] at H
      exact absurd H (by simp)
    ·
     rw [if_neg c5] at H
     have c5b0 : decide (x8_1 ≤ t147) = false := decide_eq_false c5
     clear c5
     simp only [Option.some.injEq, Prod.mk.injEq] at H
     obtain ⟨rfl, rfl⟩ := H
     go_wp2_with (first | (go_at_call 54; (with_reducible refine (spec_l05Find.calls k1 _ _ l0 a1 t147 _ ?side1 ?side2 A4.out).mono ?_); (case side1 => repeat (first | exact (Kd.C_below HR0.out HB.out) | (with_reducible first | apply cA | apply cN | apply cD))); (case side2 => exact HC0.out); rintro e w' ⟨rfl, ⟨nd, rfl⟩⟩; (try first | exact ⟨rfl, _, World.drewN_drewN _ _ _⟩ | exact ⟨rfl, _, Eq.trans (World.drewN_drewN _ _ _) (congrArg (World.drewN _) (Nat.add_assoc _ _ _))⟩)))
     repeat (go_quiet (first | (go_at_call 54; (with_reducible refine (spec_l05Find.calls k1 _ _ l0 a1 t147 _ ?side1 ?side2 A4.out).mono ?_); (case side1 => repeat (first | exact (Kd.C_below HR0.out HB.out) | (with_reducible first | apply cA | apply cN | apply cD))); (case side2 => exact HC0.out); rintro e w' ⟨rfl, ⟨nd, rfl⟩⟩; (try first | exact ⟨rfl, _, World.drewN_drewN _ _ _⟩ | exact ⟨rfl, _, Eq.trans (World.drewN_drewN _ _ _) (congrArg (World.drewN _) (Nat.add_assoc _ _ _))⟩))); try go_wp2_with (first | (go_at_call 54; (with_reducible refine (spec_l05Find.calls k1 _ _ l0 a1 t147 _ ?side1 ?side2 A4.out).mono ?_); (case side1 => repeat (first | exact (Kd.C_below HR0.out HB.out) | (with_reducible first | apply cA | apply cN | apply cD))); (case side2 => exact HC0.out); rintro e w' ⟨rfl, ⟨nd, rfl⟩⟩; (try first | exact ⟨rfl, _, World.drewN_drewN _ _ _⟩ | exact ⟨rfl, _, Eq.trans (World.drewN_drewN _ _ _) (congrArg (World.drewN _) (Nat.add_assoc _ _ _))⟩))))
     go_ret2
     exact ⟨by first | rfl | (simp [errW_none, errW_some] <;> rfl) | (simp [*, errW_none, errW_some] <;> rfl), by repeat (first | (with_reducible first | exact HB.out | apply lA | apply lN | apply lD) | exact HB.out)⟩
 ·
  rw [if_neg c3] at H
  exact absurd H (by simp)

/-! ### spec_WidestWind: function 21 -/
def spec_WidestWind.f (k : Nat) (l0 : List (S55)) (a1 : Int) : Option (Int × Int × Int) := (spec_l05Code.f k l0 a1).bind fun t150 => (if t150 = 0 then ((spec_l05Widest.f k l0 a1).bind fun bt151 => (some (bt151.1, bt151.2, 0))) else (some (0, 0, t150)))
theorem spec_WidestWind.mono : ∀ a0 a1 k, LeO (spec_WidestWind.f k a0 a1) (spec_WidestWind.f (k + 1) a0 a1) := by
 intro a0 a1 k
 unfold spec_WidestWind.f
 repeat' first
   | (with_reducible exact spec_l05Code.mono _ _ _)
   | (with_reducible exact spec_l05Widest.mono _ _ _)
   | (with_reducible exact LeO.refl _)
   | (with_reducible exact LeO.none _)
   | (with_reducible refine LeO.ite ?_ ?_)
   | (with_reducible refine LeO.bind ?_ (fun _ => ?_))
   | exact spec_l05Code.mono _ _ _
   | exact spec_l05Widest.mono _ _ _
   | exact LeO.none _
   | refine LeO.ite ?_ ?_
   | refine LeO.bind ?_ (fun _ => ?_)
set_option maxHeartbeats 8000000 in
set_option maxRecDepth 100000 in
theorem spec_WidestWind.calls (k : Nat) (A0 : Option Addr) (c0 : Nat) (l0 : List (S55)) (a1 : Int) (r1 : Int) (r2 : Int) (r3 : Int) (w : World) (hr0 : Kd.C k55 w A0 l0.length l0) (hc0 : l0.length ≤ c0) (h : spec_WidestWind.f k l0 a1 = some (r1, r2, r3)) :
  Calls Try.prog 21 #[.slice A0 l0.length c0, .int .i64 a1] w fun e w' => e = .returned (.tuple #[.int .i64 r1, .int .i64 r2, .int .i64 r3]) ∧ Below w.heap.size w w' := by
 have HR0 := Aside0.mk hr0
 have HC0 := Aside0.mk hc0
 clear hr0 hc0
 have HB := Aside0.mk (Below.refl w.heap.size w)
 have H : ((spec_l05Code.f k l0 a1).bind fun t150 => (if t150 = 0 then ((spec_l05Widest.f k l0 a1).bind fun bt151 => (some (bt151.1, bt151.2, 0))) else (some (0, 0, t150)))) = some (r1, r2, r3) := h
 clear h
 replace H := Option.bind_eq_some_iff.mp H
 obtain ⟨t150, A30, H⟩ := H
 replace H : (if t150 = 0 then ((spec_l05Widest.f k l0 a1).bind fun bt151 => (some (bt151.1, bt151.2, 0))) else (some (0, 0, t150))) = some (r1, r2, r3) := H
 have A3 := Aside0.mk A30
 clear A30
 by_cases c4 : t150 = 0
 ·
  rw [if_pos c4] at H
  have c4b0 : (t150 == 0) = true := beq_iff_eq.mpr c4
  have c4b1 : (t150 != 0) = false := bne_eq_false_iff_eq.mpr c4
  clear c4
  replace H := Option.bind_eq_some_iff.mp H
  obtain ⟨⟨t151, t152⟩, A50, H⟩ := H
  replace H : (some (t151, t152, 0)) = some (r1, r2, r3) := H
  have A5 := Aside0.mk A50
  clear A50
  simp only [Option.some.injEq, Prod.mk.injEq] at H
  obtain ⟨rfl, rfl, rfl⟩ := H
  go_enter Try.func21, Try.ntmps21
  go_wp2_with (first | ((with_reducible refine gate_callee (f := 53) rfl ?_); refine goesL_ (some 12) rfl rfl Try.func53 (by kernel_rfl) rfl #[.slice A0 l0.length c0, .int .i64 a1] rfl (by (try simp only [List.map_toArray, List.map_cons, List.map_nil]); first | done | rfl | (go_simp; done) | simp) ?_; (with_reducible refine (spec_l05Code.calls k _ _ l0 a1 t150 _ ?side1 ?side2 A3.out).mono ?_); (case side1 => repeat (first | exact HR0.out | (with_reducible first | apply cA | apply cN | apply cD))); (case side2 => exact HC0.out); rintro e w6 ⟨rfl, hb⟩; refine ⟨_, rfl, ?_⟩; have n0_ := Aside0.mk (below_step (by repeat (first | (with_reducible first | exact HB.out | apply lA | apply lN | apply lD) | exact HB.out)) hb); clear HB; have HB := n0_; clear n0_; (try clear hb); (try clear hb2); (try clear hk); (try clear hi)) | ((with_reducible refine gate_callee (f := 56) rfl ?_); refine goesL_ (some 19) rfl rfl Try.func56 (by kernel_rfl) rfl #[.slice A0 l0.length c0, .int .i64 a1] rfl (by (try simp only [List.map_toArray, List.map_cons, List.map_nil]); first | done | rfl | (go_simp; done) | simp) ?_; (with_reducible refine (spec_l05Widest.calls k _ _ l0 a1 t151 t152 _ ?side1 ?side2 A5.out).mono ?_); (case side1 => repeat (first | exact (Kd.C_below HR0.out HB.out) | (with_reducible first | apply cA | apply cN | apply cD))); (case side2 => exact HC0.out); rintro e w7 ⟨rfl, hb⟩; refine ⟨_, rfl, ?_⟩; have n0_ := Aside0.mk (below_step (by repeat (first | (with_reducible first | exact HB.out | apply lA | apply lN | apply lD) | exact HB.out)) hb); clear HB; have HB := n0_; clear n0_; (try clear hb); (try clear hb2); (try clear hk); (try clear hi)))
  go_ret3
  exact ⟨by first | rfl | (simp [errW_none, errW_some] <;> rfl) | (simp [*, errW_none, errW_some] <;> rfl), by repeat (first | (with_reducible first | exact HB.out | apply lA | apply lN | apply lD) | exact HB.out)⟩
 ·
  rw [if_neg c4] at H
  have c4b0 : (t150 == 0) = false := beq_eq_false_iff_ne.mpr c4
  have c4b1 : (t150 != 0) = true := bne_iff_ne.mpr c4
  simp only [Option.some.injEq, Prod.mk.injEq] at H
  obtain ⟨rfl, rfl, rfl⟩ := H
  go_enter Try.func21, Try.ntmps21
  go_wp2_with (first | ((with_reducible refine gate_callee (f := 53) rfl ?_); refine goesL_ (some 12) rfl rfl Try.func53 (by kernel_rfl) rfl #[.slice A0 l0.length c0, .int .i64 a1] rfl (by (try simp only [List.map_toArray, List.map_cons, List.map_nil]); first | done | rfl | (go_simp; done) | simp) ?_; (with_reducible refine (spec_l05Code.calls k _ _ l0 a1 t150 _ ?side1 ?side2 A3.out).mono ?_); (case side1 => repeat (first | exact HR0.out | (with_reducible first | apply cA | apply cN | apply cD))); (case side2 => exact HC0.out); rintro e w8 ⟨rfl, hb⟩; refine ⟨_, rfl, ?_⟩; have n0_ := Aside0.mk (below_step (by repeat (first | (with_reducible first | exact HB.out | apply lA | apply lN | apply lD) | exact HB.out)) hb); clear HB; have HB := n0_; clear n0_; (try clear hb); (try clear hb2); (try clear hk); (try clear hi)))
  go_ret3
  exact ⟨by first | rfl | (simp [errW_none, errW_some] <;> rfl) | (simp [*, errW_none, errW_some] <;> rfl), by repeat (first | (with_reducible first | exact HB.out | apply lA | apply lN | apply lD) | exact HB.out)⟩

/-! ### impl_WidestWind: function 22 -/
def impl_WidestWind.l0 : Nat → Int → Int → List (S55) → Int → Int → Option (Int × Int × Int)
 | 0, _, _, _, _, _ => none
 | k + 1, x9, x10, x30, x31, x32 => if x32 < x31 then (if 0 ≤ x32 then (if x32 < (x30.length : Int) then (impl_WidestWind.l0 k (mn x9 ((rd_T55 x30 x32).f1)) (mx x10 ((rd_T55 x30 x32).f2)) x30 x31 (wrap64 (x32 + 1))) else (none)) else (none)) else (some (x9, x10, 0))
def impl_WidestWind.f (k : Nat) (l0 : List (S55)) (a1 : Int) : Option (Int × Int × Int) := (impl_layersTo.f k l0 a1 true).bind fun bt153 => (if bt153.2 = 0 then (if 0 < (bt153.1.length : Int) then (impl_WidestWind.l0 k ((rd_T55 bt153.1 0).f1) ((rd_T55 bt153.1 0).f2) bt153.1 (bt153.1.length : Int) 0) else (none)) else (some (0, 0, bt153.2)))
theorem impl_WidestWind.mono_l : ∀ k, (∀ y0 y1 y2 y3 y4, LeO (impl_WidestWind.l0 k y0 y1 y2 y3 y4) (impl_WidestWind.l0 (k + 1) y0 y1 y2 y3 y4))
 | 0 => fun _ _ _ _ _ r h => by simp [impl_WidestWind.l0] at h
 | k + 1 => by
  have ih0 := impl_WidestWind.mono_l k
  ·
   intro y0 y1 y2 y3 y4
   unfold impl_WidestWind.l0
   repeat' first
   | (with_reducible exact ih0 _ _ _ _ _)
   | (with_reducible exact impl_layersTo.mono _ _ _ _)
   | (with_reducible exact LeO.refl _)
   | (with_reducible exact LeO.none _)
   | (with_reducible refine LeO.ite ?_ ?_)
   | (with_reducible refine LeO.bind ?_ (fun _ => ?_))
   | exact ih0 _ _ _ _ _
   | exact impl_layersTo.mono _ _ _ _
   | exact LeO.none _
   | refine LeO.ite ?_ ?_
   | refine LeO.bind ?_ (fun _ => ?_)
theorem impl_WidestWind.mono : ∀ a0 a1 k, LeO (impl_WidestWind.f k a0 a1) (impl_WidestWind.f (k + 1) a0 a1) := by
 intro a0 a1 k
 have ih0 := impl_WidestWind.mono_l k
 unfold impl_WidestWind.f
 repeat' first
   | (with_reducible exact ih0 _ _ _ _ _)
   | (with_reducible exact impl_layersTo.mono _ _ _ _)
   | (with_reducible exact LeO.refl _)
   | (with_reducible exact LeO.none _)
   | (with_reducible refine LeO.ite ?_ ?_)
   | (with_reducible refine LeO.bind ?_ (fun _ => ?_))
   | exact ih0 _ _ _ _ _
   | exact impl_layersTo.mono _ _ _ _
   | exact LeO.none _
   | refine LeO.ite ?_ ?_
   | refine LeO.bind ?_ (fun _ => ?_)
theorem le_gb {wq W0 W : World} {gb : Nat} (h0 : Below wq.heap.size wq W0) (hg : gb = W.heap.size) (h : Below wq.heap.size wq W) : wq.heap.size ≤ gb := by
 rw [hg]; exact below_size h
theorem refl_of {w : World} {A : Option Addr} {n : Nat} {l : List S55} (h : Kd.C k55 w A n l) : Below w.heap.size w w := Below.refl _ _
set_option maxHeartbeats 8000000 in
set_option maxRecDepth 100000 in
theorem wide_ok (k : Nat) (A0 : Option Addr) (c0 : Nat) (l M : List S55) (a1 r1 r2 r3 : Int) (w : World) (hr0 : Kd.C k55 w A0 l.length l) (hTo : ∀ w, Kd.C k55 w A0 l.length l → Calls Try.prog 55 #[.slice A0 l.length c0, .int .i64 a1, .bool true] w fun e w' => LTo l M 0 w e w') (h1 : 1 ≤ M.length) (H0 : impl_WidestWind.l0 k ((rd_T55 M 0).f1) ((rd_T55 M 0).f2) M (M.length : Int) 0 = some (r1, r2, r3)) :
  Calls Try.prog 22 #[.slice A0 l.length c0, .int .i64 a1] w fun e w' => e = .returned (.tuple #[.int .i64 r1, .int .i64 r2, .int .i64 r3]) ∧ Below w.heap.size w w' := by
 have hu55 := Try.underlying55
 have HR0 := Aside0.mk hr0
 have HB := Aside0.mk (Below.refl w.heap.size w)
 have c5b0 : decide (0 < (M.length : Int)) = true := decide_eq_true (by omega)
 have c5b1 : decide (0 < M.length) = true := decide_eq_true (by omega)
 have H' := Aside0.mk H0
 clear hr0 h1 H0
 go_enter Try.func22, Try.ntmps22
 go_wp2_with (first | ((with_reducible refine gate_callee (f := 55) rfl ?_); refine goesL_ (some 16) rfl rfl Try.func55 (by kernel_rfl) rfl #[.slice A0 l.length c0, .int .i64 a1, .bool true] rfl (by (try simp only [List.map_toArray, List.map_cons, List.map_nil]); first | done | rfl | (go_simp; done) | simp) ?_; (with_reducible refine (hTo _ ?side1).mono ?_); (case side1 => repeat (first | exact (Kd.C_below HR0.out (by repeat (first | (with_reducible first | exact HB.out | apply lA | apply lN | apply lD) | exact HB.out))) | (with_reducible first | apply cA | apply cN | apply cD))); rintro e w1 ⟨A1, c1, rfl, hC, hcc, hb⟩; have HK := Aside0.mk hC; have HCC := Aside0.mk hcc; clear hC hcc; refine ⟨_, rfl, ?_⟩; have nb_ := Aside0.mk (below_step (by repeat (first | (with_reducible first | exact HB.out | apply lA | apply lN | apply lD) | exact HB.out)) hb); clear HB; have HB := nb_; clear nb_ hb; have p175 : 0 ≤ (0 : Int) := (by omega); have q175 : 0 < (M.length : Int) := of_decide_eq_true (by with_reducible assumption); obtain ⟨ad175, e175, hx175_0, hx175_1, hx175_2⟩ := at_T55 HK.out 0 p175 q175; cases e175; have qi175 : (0 < M.length) = True := eq_true (by omega); (try rw [show ((0 : Int)).toNat = 0 from rfl] at hx175_0); (try rw [show 0 * 3 = 0 from rfl] at hx175_0); (try rw [Addr.add_zero'] at hx175_0); (try rw [show ((0 : Int)).toNat = 0 from rfl] at hx175_1); (try rw [show 0 * 3 = 0 from rfl] at hx175_1); (try rw [Addr.add_zero'] at hx175_1); (try rw [show ((0 : Int)).toNat = 0 from rfl] at hx175_2); (try rw [show 0 * 3 = 0 from rfl] at hx175_2); (try rw [Addr.add_zero'] at hx175_2); replace p175 := eq_true p175; replace q175 := eq_true q175))
 repeat (go_quiet (first | ((with_reducible refine gate_callee (f := 55) rfl ?_); refine goesL_ (some 16) rfl rfl Try.func55 (by kernel_rfl) rfl #[.slice A0 l.length c0, .int .i64 a1, .bool true] rfl (by (try simp only [List.map_toArray, List.map_cons, List.map_nil]); first | done | rfl | (go_simp; done) | simp) ?_; (with_reducible refine (hTo _ ?side1).mono ?_); (case side1 => repeat (first | exact (Kd.C_below HR0.out (by repeat (first | (with_reducible first | exact HB.out | apply lA | apply lN | apply lD) | exact HB.out))) | (with_reducible first | apply cA | apply cN | apply cD))); rintro e w1 ⟨A1, c1, rfl, hC, hcc, hb⟩; have HK := Aside0.mk hC; have HCC := Aside0.mk hcc; clear hC hcc; refine ⟨_, rfl, ?_⟩; have nb_ := Aside0.mk (below_step (by repeat (first | (with_reducible first | exact HB.out | apply lA | apply lN | apply lD) | exact HB.out)) hb); clear HB; have HB := nb_; clear nb_ hb; have p175 : 0 ≤ (0 : Int) := (by omega); have q175 : 0 < (M.length : Int) := of_decide_eq_true (by with_reducible assumption); obtain ⟨ad175, e175, hx175_0, hx175_1, hx175_2⟩ := at_T55 HK.out 0 p175 q175; cases e175; have qi175 : (0 < M.length) = True := eq_true (by omega); (try rw [show ((0 : Int)).toNat = 0 from rfl] at hx175_0); (try rw [show 0 * 3 = 0 from rfl] at hx175_0); (try rw [Addr.add_zero'] at hx175_0); (try rw [show ((0 : Int)).toNat = 0 from rfl] at hx175_1); (try rw [show 0 * 3 = 0 from rfl] at hx175_1); (try rw [Addr.add_zero'] at hx175_1); (try rw [show ((0 : Int)).toNat = 0 from rfl] at hx175_2); (try rw [show 0 * 3 = 0 from rfl] at hx175_2); (try rw [Addr.add_zero'] at hx175_2); replace p175 := eq_true p175; replace q175 := eq_true q175)); try go_wp2_with (first | ((with_reducible refine gate_callee (f := 55) rfl ?_); refine goesL_ (some 16) rfl rfl Try.func55 (by kernel_rfl) rfl #[.slice A0 l.length c0, .int .i64 a1, .bool true] rfl (by (try simp only [List.map_toArray, List.map_cons, List.map_nil]); first | done | rfl | (go_simp; done) | simp) ?_; (with_reducible refine (hTo _ ?side1).mono ?_); (case side1 => repeat (first | exact (Kd.C_below HR0.out (by repeat (first | (with_reducible first | exact HB.out | apply lA | apply lN | apply lD) | exact HB.out))) | (with_reducible first | apply cA | apply cN | apply cD))); rintro e w1 ⟨A1, c1, rfl, hC, hcc, hb⟩; have HK := Aside0.mk hC; have HCC := Aside0.mk hcc; clear hC hcc; refine ⟨_, rfl, ?_⟩; have nb_ := Aside0.mk (below_step (by repeat (first | (with_reducible first | exact HB.out | apply lA | apply lN | apply lD) | exact HB.out)) hb); clear HB; have HB := nb_; clear nb_ hb; have p175 : 0 ≤ (0 : Int) := (by omega); have q175 : 0 < (M.length : Int) := of_decide_eq_true (by with_reducible assumption); obtain ⟨ad175, e175, hx175_0, hx175_1, hx175_2⟩ := at_T55 HK.out 0 p175 q175; cases e175; have qi175 : (0 < M.length) = True := eq_true (by omega); (try rw [show ((0 : Int)).toNat = 0 from rfl] at hx175_0); (try rw [show 0 * 3 = 0 from rfl] at hx175_0); (try rw [Addr.add_zero'] at hx175_0); (try rw [show ((0 : Int)).toNat = 0 from rfl] at hx175_1); (try rw [show 0 * 3 = 0 from rfl] at hx175_1); (try rw [Addr.add_zero'] at hx175_1); (try rw [show ((0 : Int)).toNat = 0 from rfl] at hx175_2); (try rw [show 0 * 3 = 0 from rfl] at hx175_2); (try rw [Addr.add_zero'] at hx175_2); replace p175 := eq_true p175; replace q175 := eq_true q175)))
 go_loopg [9, 10, 32] k (fun kq v9 v10 v32 w' => ∃ (x9_1 : Int) (x10_1 : Int) (x32_1 : Int), v9 = .int .i64 x9_1 ∧ v10 = .int .i64 x10_1 ∧ v32 = .int .i64 x32_1 ∧ Aside0 (impl_WidestWind.l0 kq x9_1 x10_1 M (M.length : Int) x32_1 = some (r1, r2, r3)) ∧ Aside0 (kq ≤ k) ∧ Aside0 (Kd.C k55 w' (some ad175) M.length M) ∧ Aside0 (Below w.heap.size w w'))
 case atStart => exact ⟨((rd_T55 M 0).f1), ((rd_T55 M 0).f2), (0), (by first | rfl | (simp; done) | (simp [*]; done)), (by first | rfl | (simp; done) | (simp [*]; done)), (by first | rfl | (simp; done) | (simp [*]; done)), H', ⟨Nat.le_refl _⟩, ⟨by repeat (first | exact HK.out | (with_reducible first | apply cA | apply cN | apply cD))⟩, ⟨by repeat (first | (with_reducible first | exact HB.out | apply lA | apply lN | apply lD) | exact HB.out)⟩⟩
 case round =>
  clear H'
  try clear hx175_0
  try clear hx175_1
  try clear hx175_2
  try clear p175
  try clear q175
  try clear qi175
  try clear c5b0
  try clear c5b1
  try clear HK
  try clear HB
  obtain ⟨x9_1, x10_1, x32_1, rfl, rfl, rfl, HA, HK1, HKR, HB⟩ := hrel
  have HBQ := Aside0.mk (refl_of HKR.out)
  cases gk with
  | zero => exact absurd HA.out (by simp [impl_WidestWind.l0])
  | succ k1 =>
   have H := HA.out
   clear HA
   simp only [impl_WidestWind.l0] at H
   by_cases c9 : x32_1 < (M.length : Int)
   ·
    rw [if_pos c9] at H
    have c9b0 : decide (x32_1 < (M.length : Int)) = true := decide_eq_true c9
    clear c9
    by_cases c10 : 0 ≤ x32_1
    ·
     rw [if_pos c10] at H
     have c10b0 : decide (0 ≤ x32_1) = true := decide_eq_true c10
     clear c10
     by_cases c11 : x32_1 < (M.length : Int)
     ·
      rw [if_pos c11] at H
      have c11b0 : decide (x32_1 < (M.length : Int)) = true := decide_eq_true c11
      clear c11
      obtain ⟨ji12, hji12⟩ : ∃ j_ : Int, (mn x9_1 ((rd_T55 M x32_1).f1)) = j_ := ⟨_, rfl⟩
      obtain ⟨ji13, hji13⟩ : ∃ j_ : Int, (mx x10_1 ((rd_T55 M x32_1).f2)) = j_ := ⟨_, rfl⟩
      replace H : (impl_WidestWind.l0 k1 ji12 ji13 M (M.length : Int) (wrap64 (x32_1 + 1))) = some (r1, r2, r3) := by rw [hji12, hji13] at H; exact H
      have hji12_ : (if ((rd_T55 M x32_1).f1) < x9_1 then ((rd_T55 M x32_1).f1) else x9_1) = ji12 := hji12
      have hji13_ : (if x10_1 < ((rd_T55 M x32_1).f2) then ((rd_T55 M x32_1).f2) else x10_1) = ji13 := hji13
      have H' := Aside0.mk H
      clear H
      have p177 : 0 ≤ (x32_1 : Int) := of_decide_eq_true (by with_reducible assumption)
      have q177 : x32_1 < (M.length : Int) := of_decide_eq_true (by with_reducible assumption)
      obtain ⟨ad177, e177, hx177_0, hx177_1, hx177_2⟩ := at_T55 HKR.out x32_1 p177 q177
      obtain rfl : ad175 = ad177 := (by injection e177)
      replace p177 := eq_true p177
      replace q177 := eq_true q177
      go_wp2_with (first | ((with_reducible refine gate_dst (N := 12) rfl ?_); refine box_event ?hg (N := 12) ?hd (cs := #[.int .i64 0, .int .i64 0, .int .i64 0]) (t := 55) ?hr ?_; (case hd => rfl); (case hg => rfl); (case hr => first | (go_simp; done) | (go_simp; rfl)); intro gb178 hg w14 hbox hb; have GE := Aside0.mk (le_gb HB.out hg (by repeat (first | (with_reducible first | exact HB.out | apply lA | apply lN | apply lD) | exact HB.out))); have GQ := Aside0.mk (le_gb HBQ.out hg (by repeat (first | (with_reducible first | exact HBQ.out | apply lA | apply lN | apply lD) | exact HBQ.out))); have n0_ := Aside0.mk (below_step (by repeat (first | (with_reducible first | exact HB.out | apply lA | apply lN | apply lD) | exact HB.out)) hb); have n1_ := Aside0.mk (below_step (by repeat (first | (with_reducible first | exact HBQ.out | apply lA | apply lN | apply lD) | exact HBQ.out)) hb); clear HB HBQ; have HB := n0_; have HBQ := n1_; clear n0_ n1_ hb; have BK178 := Aside0.mk hbox; clear hbox hg; have hcz15_0 : w14.cell? ⟨gb178, 0, none⟩ = some (.int .i64 0) := (blk_cell BK178.out 0).trans rfl; have hcz15_1 : w14.cell? ⟨gb178, 1, none⟩ = some (.int .i64 0) := (blk_cell BK178.out 1).trans rfl; have hcz15_2 : w14.cell? ⟨gb178, 2, none⟩ = some (.int .i64 0) := (blk_cell BK178.out 2).trans rfl; have hfz15_0 := blk_frozen BK178.out 0; have hfz15_1 := blk_frozen BK178.out 1; have hfz15_2 := blk_frozen BK178.out 2))
      repeat (go_quiet (first | ((with_reducible refine gate_dst (N := 12) rfl ?_); refine box_event ?hg (N := 12) ?hd (cs := #[.int .i64 0, .int .i64 0, .int .i64 0]) (t := 55) ?hr ?_; (case hd => rfl); (case hg => rfl); (case hr => first | (go_simp; done) | (go_simp; rfl)); intro gb178 hg w14 hbox hb; have GE := Aside0.mk (le_gb HB.out hg (by repeat (first | (with_reducible first | exact HB.out | apply lA | apply lN | apply lD) | exact HB.out))); have GQ := Aside0.mk (le_gb HBQ.out hg (by repeat (first | (with_reducible first | exact HBQ.out | apply lA | apply lN | apply lD) | exact HBQ.out))); have n0_ := Aside0.mk (below_step (by repeat (first | (with_reducible first | exact HB.out | apply lA | apply lN | apply lD) | exact HB.out)) hb); have n1_ := Aside0.mk (below_step (by repeat (first | (with_reducible first | exact HBQ.out | apply lA | apply lN | apply lD) | exact HBQ.out)) hb); clear HB HBQ; have HB := n0_; have HBQ := n1_; clear n0_ n1_ hb; have BK178 := Aside0.mk hbox; clear hbox hg; have hcz15_0 : w14.cell? ⟨gb178, 0, none⟩ = some (.int .i64 0) := (blk_cell BK178.out 0).trans rfl; have hcz15_1 : w14.cell? ⟨gb178, 1, none⟩ = some (.int .i64 0) := (blk_cell BK178.out 1).trans rfl; have hcz15_2 : w14.cell? ⟨gb178, 2, none⟩ = some (.int .i64 0) := (blk_cell BK178.out 2).trans rfl; have hfz15_0 := blk_frozen BK178.out 0; have hfz15_1 := blk_frozen BK178.out 1; have hfz15_2 := blk_frozen BK178.out 2)); try go_wp2_with (first | ((with_reducible refine gate_dst (N := 12) rfl ?_); refine box_event ?hg (N := 12) ?hd (cs := #[.int .i64 0, .int .i64 0, .int .i64 0]) (t := 55) ?hr ?_; (case hd => rfl); (case hg => rfl); (case hr => first | (go_simp; done) | (go_simp; rfl)); intro gb178 hg w14 hbox hb; have GE := Aside0.mk (le_gb HB.out hg (by repeat (first | (with_reducible first | exact HB.out | apply lA | apply lN | apply lD) | exact HB.out))); have GQ := Aside0.mk (le_gb HBQ.out hg (by repeat (first | (with_reducible first | exact HBQ.out | apply lA | apply lN | apply lD) | exact HBQ.out))); have n0_ := Aside0.mk (below_step (by repeat (first | (with_reducible first | exact HB.out | apply lA | apply lN | apply lD) | exact HB.out)) hb); have n1_ := Aside0.mk (below_step (by repeat (first | (with_reducible first | exact HBQ.out | apply lA | apply lN | apply lD) | exact HBQ.out)) hb); clear HB HBQ; have HB := n0_; have HBQ := n1_; clear n0_ n1_ hb; have BK178 := Aside0.mk hbox; clear hbox hg; have hcz15_0 : w14.cell? ⟨gb178, 0, none⟩ = some (.int .i64 0) := (blk_cell BK178.out 0).trans rfl; have hcz15_1 : w14.cell? ⟨gb178, 1, none⟩ = some (.int .i64 0) := (blk_cell BK178.out 1).trans rfl; have hcz15_2 : w14.cell? ⟨gb178, 2, none⟩ = some (.int .i64 0) := (blk_cell BK178.out 2).trans rfl; have hfz15_0 := blk_frozen BK178.out 0; have hfz15_1 := blk_frozen BK178.out 1; have hfz15_2 := blk_frozen BK178.out 2)))
      go_roundg k1
      case measure => have := HK1.out; omega
      case rel => exact ⟨(ji12), (ji13), (wrap64 (x32_1 + 1)), (by first | rfl | (simp; done) | (simp only [← hji12] <;> (first | rfl | simp)) | (simp [*]; done)), (by first | rfl | (simp; done) | (simp only [← hji13] <;> (first | rfl | simp)) | (simp [*]; done)), (by first | rfl | (simp; done) | (simp [*]; done)), (by first | exact H' | (simp only [hji12, hji13]; exact H') | (have H2_ := H'; simp only [← hji12, ← hji13] at H2_; exact H2_)), ⟨by have := HK1.out; omega⟩, ⟨Kd.C_below HKR.out (by repeat (first | (with_reducible first | exact HBQ.out | apply lA | apply lN | apply lD | refine below_set ?_ GQ.out) | exact HBQ.out))⟩, ⟨by repeat (first | (with_reducible first | exact HB.out | apply lA | apply lN | apply lD | refine below_set ?_ GE.out) | exact HB.out)⟩⟩
     ·
      rw [if_neg c11] at H
      exact absurd H (by simp)
    ·
     rw [if_neg c10] at H
     exact absurd H (by simp)
   ·
    rw [if_neg c9] at H
    have c9b0 : decide (x32_1 < (M.length : Int)) = false := decide_eq_false c9
    clear c9
    simp only [Option.some.injEq, Prod.mk.injEq] at H
    obtain ⟨rfl, rfl, rfl⟩ := H
    go_wp2
    repeat (go_quiet (fail); try go_wp2)
    go_ret3
    exact ⟨by first | rfl | (simp [errW_none, errW_some] <;> rfl) | (simp [*, errW_none, errW_some] <;> rfl), by repeat (first | (with_reducible first | exact HB.out | apply lA | apply lN | apply lD) | exact HB.out)⟩
set_option maxHeartbeats 8000000 in
set_option maxRecDepth 100000 in
theorem wide_no (A0 : Option Addr) (c0 : Nat) (l : List S55) (a1 er : Int) (w : World) (hr0 : Kd.C k55 w A0 l.length l) (hTo : ∀ w, Kd.C k55 w A0 l.length l → Calls Try.prog 55 #[.slice A0 l.length c0, .int .i64 a1, .bool true] w fun e w' => LTo l [] er w e w') (h1 : er ≠ 0) :
  Calls Try.prog 22 #[.slice A0 l.length c0, .int .i64 a1] w fun e w' => e = .returned (.tuple #[.int .i64 0, .int .i64 0, .int .i64 er]) ∧ Below w.heap.size w w' := by
 have HR0 := Aside0.mk hr0
 have HB := Aside0.mk (Below.refl w.heap.size w)
 have c4b0 : (er == 0) = false := beq_eq_false_iff_ne.mpr h1
 have c4b1 : (er != 0) = true := bne_iff_ne.mpr h1
 clear hr0 h1
 go_enter Try.func22, Try.ntmps22
 go_wp2_with (first | ((with_reducible refine gate_callee (f := 55) rfl ?_); refine goesL_ (some 16) rfl rfl Try.func55 (by kernel_rfl) rfl #[.slice A0 l.length c0, .int .i64 a1, .bool true] rfl (by (try simp only [List.map_toArray, List.map_cons, List.map_nil]); first | done | rfl | (go_simp; done) | simp) ?_; (with_reducible refine (hTo _ ?side1).mono ?_); (case side1 => repeat (first | exact (Kd.C_below HR0.out (by repeat (first | (with_reducible first | exact HB.out | apply lA | apply lN | apply lD) | exact HB.out))) | (with_reducible first | apply cA | apply cN | apply cD))); rintro e w1 ⟨A1, c1, rfl, hC, hcc, hb⟩; clear hC hcc; refine ⟨_, rfl, ?_⟩; have nb_ := Aside0.mk (below_step (by repeat (first | (with_reducible first | exact HB.out | apply lA | apply lN | apply lD) | exact HB.out)) hb); clear HB; have HB := nb_; clear nb_ hb))
 go_ret3
 exact ⟨by first | rfl | (simp [errW_none, errW_some] <;> rfl) | (simp [*, errW_none, errW_some] <;> rfl), by repeat (first | (with_reducible first | exact HB.out | apply lA | apply lN | apply lD) | exact HB.out)⟩
theorem impl_WidestWind.calls (k : Nat) (A0 : Option Addr) (c0 : Nat) (l0 : List (S55)) (a1 : Int) (r1 : Int) (r2 : Int) (r3 : Int) (w : World) (hr0 : Kd.C k55 w A0 l0.length l0) (hc0 : l0.length ≤ c0) (h : impl_WidestWind.f k l0 a1 = some (r1, r2, r3)) :
  Calls Try.prog 22 #[.slice A0 l0.length c0, .int .i64 a1] w fun e w' => e = .returned (.tuple #[.int .i64 r1, .int .i64 r2, .int .i64 r3]) ∧ Below w.heap.size w w' := by
 obtain ⟨⟨M, er⟩, hT, h⟩ := Option.bind_eq_some_iff.mp h
 have hTo := fun w hC => layersTo_own k A0 c0 l0 a1 true M er w hC hc0 hT
 have hMl := layersTo_len k l0 a1 true M er hT
 have hcap : l0.length ≤ 9223372036854775807 := hr0.2.1
 by_cases e : er = 0
 ·
  subst e
  simp only [if_true] at h
  by_cases g : 0 < (M.length : Int)
  ·
   rw [if_pos g] at h
   exact wide_ok k A0 c0 l0 M a1 r1 r2 r3 w hr0 hTo (by omega) h
  ·
   rw [if_neg g] at h; exact absurd h (by simp)
 ·
  simp only [e, if_false, Option.some.injEq, Prod.mk.injEq] at h
  obtain ⟨rfl, rfl, rfl⟩ := h
  have hM : M = [] := layersTo_nil k l0 a1 true M er hT e
  subst hM
  exact wide_no A0 c0 l0 a1 er w hr0 hTo e

/-! ### spec_CommonWind: function 23 -/
def spec_CommonWind.l0 : Nat → List (S55) → Int → Int → Int → Int → Option (Int × Int × Int)
 | 0, _, _, _, _, _ => none
 | k + 1, x0, x1, x8, x9, x10 => (spec_l05Find.f k x0 x1).bind fun t164 => (if x10 ≤ t164 then (if 0 ≤ x10 then (if x10 < (x0.length : Int) then (spec_CommonWind.l0 k x0 x1 (mx x8 ((rd_T55 x0 x10).f1)) (mn x9 ((rd_T55 x0 x10).f2)) (wrap64 (x10 + 1))) else (none)) else (none)) else (if x8 > x9 then (some (0, 0, 5)) else (some (x8, x9, 0))))
def spec_CommonWind.f (k : Nat) (l0 : List (S55)) (a1 : Int) : Option (Int × Int × Int) := (spec_l05Code.f k l0 a1).bind fun t161 => (if t161 = 0 then (if 0 < (l0.length : Int) then (spec_CommonWind.l0 k l0 a1 ((rd_T55 l0 0).f1) ((rd_T55 l0 0).f2) 0) else (none)) else (some (0, 0, t161)))
theorem spec_CommonWind.mono_l : ∀ k, (∀ y0 y1 y2 y3 y4, LeO (spec_CommonWind.l0 k y0 y1 y2 y3 y4) (spec_CommonWind.l0 (k + 1) y0 y1 y2 y3 y4))
 | 0 => fun _ _ _ _ _ r h => by simp [spec_CommonWind.l0] at h
 | k + 1 => by
  have ih0 := spec_CommonWind.mono_l k
  ·
   intro y0 y1 y2 y3 y4
   unfold spec_CommonWind.l0
   repeat' first
   | (with_reducible exact ih0 _ _ _ _ _)
   | (with_reducible exact spec_l05Code.mono _ _ _)
   | (with_reducible exact spec_l05Find.mono _ _ _)
   | (with_reducible exact LeO.refl _)
   | (with_reducible exact LeO.none _)
   | (with_reducible refine LeO.ite ?_ ?_)
   | (with_reducible refine LeO.bind ?_ (fun _ => ?_))
   | exact ih0 _ _ _ _ _
   | exact spec_l05Code.mono _ _ _
   | exact spec_l05Find.mono _ _ _
   | exact LeO.none _
   | refine LeO.ite ?_ ?_
   | refine LeO.bind ?_ (fun _ => ?_)
theorem spec_CommonWind.mono : ∀ a0 a1 k, LeO (spec_CommonWind.f k a0 a1) (spec_CommonWind.f (k + 1) a0 a1) := by
 intro a0 a1 k
 have ih0 := spec_CommonWind.mono_l k
 unfold spec_CommonWind.f
 repeat' first
   | (with_reducible exact ih0 _ _ _ _ _)
   | (with_reducible exact spec_l05Code.mono _ _ _)
   | (with_reducible exact spec_l05Find.mono _ _ _)
   | (with_reducible exact LeO.refl _)
   | (with_reducible exact LeO.none _)
   | (with_reducible refine LeO.ite ?_ ?_)
   | (with_reducible refine LeO.bind ?_ (fun _ => ?_))
   | exact ih0 _ _ _ _ _
   | exact spec_l05Code.mono _ _ _
   | exact spec_l05Find.mono _ _ _
   | exact LeO.none _
   | refine LeO.ite ?_ ?_
   | refine LeO.bind ?_ (fun _ => ?_)
set_option maxHeartbeats 8000000 in
set_option maxRecDepth 100000 in
theorem spec_CommonWind.calls (k : Nat) (A0 : Option Addr) (c0 : Nat) (l0 : List (S55)) (a1 : Int) (r1 : Int) (r2 : Int) (r3 : Int) (w : World) (hr0 : Kd.C k55 w A0 l0.length l0) (hc0 : l0.length ≤ c0) (h : spec_CommonWind.f k l0 a1 = some (r1, r2, r3)) :
  Calls Try.prog 23 #[.slice A0 l0.length c0, .int .i64 a1] w fun e w' => e = .returned (.tuple #[.int .i64 r1, .int .i64 r2, .int .i64 r3]) ∧ Below w.heap.size w w' := by
 have HR0 := Aside0.mk hr0
 have HC0 := Aside0.mk hc0
 clear hr0 hc0
 have HB := Aside0.mk (Below.refl w.heap.size w)
 have H : ((spec_l05Code.f k l0 a1).bind fun t161 => (if t161 = 0 then (if 0 < (l0.length : Int) then (spec_CommonWind.l0 k l0 a1 ((rd_T55 l0 0).f1) ((rd_T55 l0 0).f2) 0) else (none)) else (some (0, 0, t161)))) = some (r1, r2, r3) := h
 clear h
 replace H := Option.bind_eq_some_iff.mp H
 obtain ⟨t161, A30, H⟩ := H
 replace H : (if t161 = 0 then (if 0 < (l0.length : Int) then (spec_CommonWind.l0 k l0 a1 ((rd_T55 l0 0).f1) ((rd_T55 l0 0).f2) 0) else (none)) else (some (0, 0, t161))) = some (r1, r2, r3) := H
 have A3 := Aside0.mk A30
 clear A30
 by_cases c4 : t161 = 0
 ·
  rw [if_pos c4] at H
  have c4b0 : (t161 == 0) = true := beq_iff_eq.mpr c4
  have c4b1 : (t161 != 0) = false := bne_eq_false_iff_eq.mpr c4
  clear c4
  by_cases c5 : 0 < (l0.length : Int)
  ·
   rw [if_pos c5] at H
   have c5b0 : decide (0 < (l0.length : Int)) = true := decide_eq_true c5
   have c5b1 : decide (0 < l0.length) = true := decide_eq_true (by omega)
   clear c5
   have H' := Aside0.mk H
   clear H
   go_enter Try.func23, Try.ntmps23
   go_wp2_with (first | (go_at_call 53; (with_reducible refine (spec_l05Code.calls k _ _ l0 a1 t161 _ ?side1 ?side2 A3.out).mono ?_); (case side1 => repeat (first | exact HR0.out | (with_reducible first | apply cA | apply cN | apply cD))); (case side2 => exact HC0.out); rintro e w6 ⟨rfl, hb⟩; have n0_ := Aside0.mk (below_step (by repeat (first | (with_reducible first | exact HB.out | apply lA | apply lN | apply lD) | exact HB.out)) hb); clear HB; have HB := n0_; clear n0_; (try clear hb); (try clear hb2); (try clear hk); (try clear hi); have p162 : 0 ≤ (0 : Int) := (by omega); have q162 : 0 < (l0.length : Int) := of_decide_eq_true (by with_reducible assumption); obtain ⟨ad162, e162, hx162_0, hx162_1, hx162_2⟩ := at_T55 HR0.out 0 p162 q162; cases e162; have qi162 : (0 < l0.length) = True := eq_true (by omega); (try rw [show ((0 : Int)).toNat = 0 from rfl] at hx162_0); (try rw [show 0 * 3 = 0 from rfl] at hx162_0); (try rw [Addr.add_zero'] at hx162_0); (try rw [show ((0 : Int)).toNat = 0 from rfl] at hx162_1); (try rw [show 0 * 3 = 0 from rfl] at hx162_1); (try rw [Addr.add_zero'] at hx162_1); (try rw [show ((0 : Int)).toNat = 0 from rfl] at hx162_2); (try rw [show 0 * 3 = 0 from rfl] at hx162_2); (try rw [Addr.add_zero'] at hx162_2); replace hx162_0 := cB HB.out hx162_0; replace hx162_1 := cB HB.out hx162_1; replace hx162_2 := cB HB.out hx162_2; replace p162 := eq_true p162; replace q162 := eq_true q162; have p163 : 0 ≤ (0 : Int) := (by omega); have q163 : 0 < (l0.length : Int) := of_decide_eq_true (by with_reducible assumption); obtain ⟨ad163, e163, hx163_0, hx163_1, hx163_2⟩ := at_T55 HR0.out 0 p163 q163; obtain rfl : ad162 = ad163 := (by injection e163); have qi163 : (0 < l0.length) = True := eq_true (by omega); (try rw [show ((0 : Int)).toNat = 0 from rfl] at hx163_0); (try rw [show 0 * 3 = 0 from rfl] at hx163_0); (try rw [Addr.add_zero'] at hx163_0); (try rw [show ((0 : Int)).toNat = 0 from rfl] at hx163_1); (try rw [show 0 * 3 = 0 from rfl] at hx163_1); (try rw [Addr.add_zero'] at hx163_1); (try rw [show ((0 : Int)).toNat = 0 from rfl] at hx163_2); (try rw [show 0 * 3 = 0 from rfl] at hx163_2); (try rw [Addr.add_zero'] at hx163_2); replace hx163_0 := cB HB.out hx163_0; replace hx163_1 := cB HB.out hx163_1; replace hx163_2 := cB HB.out hx163_2; replace p163 := eq_true p163; replace q163 := eq_true q163))
   repeat (go_quiet (first | (go_at_call 53; (with_reducible refine (spec_l05Code.calls k _ _ l0 a1 t161 _ ?side1 ?side2 A3.out).mono ?_); (case side1 => repeat (first | exact HR0.out | (with_reducible first | apply cA | apply cN | apply cD))); (case side2 => exact HC0.out); rintro e w6 ⟨rfl, hb⟩; have n0_ := Aside0.mk (below_step (by repeat (first | (with_reducible first | exact HB.out | apply lA | apply lN | apply lD) | exact HB.out)) hb); clear HB; have HB := n0_; clear n0_; (try clear hb); (try clear hb2); (try clear hk); (try clear hi); have p162 : 0 ≤ (0 : Int) := (by omega); have q162 : 0 < (l0.length : Int) := of_decide_eq_true (by with_reducible assumption); obtain ⟨ad162, e162, hx162_0, hx162_1, hx162_2⟩ := at_T55 HR0.out 0 p162 q162; cases e162; have qi162 : (0 < l0.length) = True := eq_true (by omega); (try rw [show ((0 : Int)).toNat = 0 from rfl] at hx162_0); (try rw [show 0 * 3 = 0 from rfl] at hx162_0); (try rw [Addr.add_zero'] at hx162_0); (try rw [show ((0 : Int)).toNat = 0 from rfl] at hx162_1); (try rw [show 0 * 3 = 0 from rfl] at hx162_1); (try rw [Addr.add_zero'] at hx162_1); (try rw [show ((0 : Int)).toNat = 0 from rfl] at hx162_2); (try rw [show 0 * 3 = 0 from rfl] at hx162_2); (try rw [Addr.add_zero'] at hx162_2); replace hx162_0 := cB HB.out hx162_0; replace hx162_1 := cB HB.out hx162_1; replace hx162_2 := cB HB.out hx162_2; replace p162 := eq_true p162; replace q162 := eq_true q162; have p163 : 0 ≤ (0 : Int) := (by omega); have q163 : 0 < (l0.length : Int) := of_decide_eq_true (by with_reducible assumption); obtain ⟨ad163, e163, hx163_0, hx163_1, hx163_2⟩ := at_T55 HR0.out 0 p163 q163; obtain rfl : ad162 = ad163 := (by injection e163); have qi163 : (0 < l0.length) = True := eq_true (by omega); (try rw [show ((0 : Int)).toNat = 0 from rfl] at hx163_0); (try rw [show 0 * 3 = 0 from rfl] at hx163_0); (try rw [Addr.add_zero'] at hx163_0); (try rw [show ((0 : Int)).toNat = 0 from rfl] at hx163_1); (try rw [show 0 * 3 = 0 from rfl] at hx163_1); (try rw [Addr.add_zero'] at hx163_1); (try rw [show ((0 : Int)).toNat = 0 from rfl] at hx163_2); (try rw [show 0 * 3 = 0 from rfl] at hx163_2); (try rw [Addr.add_zero'] at hx163_2); replace hx163_0 := cB HB.out hx163_0; replace hx163_1 := cB HB.out hx163_1; replace hx163_2 := cB HB.out hx163_2; replace p163 := eq_true p163; replace q163 := eq_true q163)); try go_wp2_with (first | (go_at_call 53; (with_reducible refine (spec_l05Code.calls k _ _ l0 a1 t161 _ ?side1 ?side2 A3.out).mono ?_); (case side1 => repeat (first | exact HR0.out | (with_reducible first | apply cA | apply cN | apply cD))); (case side2 => exact HC0.out); rintro e w6 ⟨rfl, hb⟩; have n0_ := Aside0.mk (below_step (by repeat (first | (with_reducible first | exact HB.out | apply lA | apply lN | apply lD) | exact HB.out)) hb); clear HB; have HB := n0_; clear n0_; (try clear hb); (try clear hb2); (try clear hk); (try clear hi); have p162 : 0 ≤ (0 : Int) := (by omega); have q162 : 0 < (l0.length : Int) := of_decide_eq_true (by with_reducible assumption); obtain ⟨ad162, e162, hx162_0, hx162_1, hx162_2⟩ := at_T55 HR0.out 0 p162 q162; cases e162; have qi162 : (0 < l0.length) = True := eq_true (by omega); (try rw [show ((0 : Int)).toNat = 0 from rfl] at hx162_0); (try rw [show 0 * 3 = 0 from rfl] at hx162_0); (try rw [Addr.add_zero'] at hx162_0); (try rw [show ((0 : Int)).toNat = 0 from rfl] at hx162_1); (try rw [show 0 * 3 = 0 from rfl] at hx162_1); (try rw [Addr.add_zero'] at hx162_1); (try rw [show ((0 : Int)).toNat = 0 from rfl] at hx162_2); (try rw [show 0 * 3 = 0 from rfl] at hx162_2); (try rw [Addr.add_zero'] at hx162_2); replace hx162_0 := cB HB.out hx162_0; replace hx162_1 := cB HB.out hx162_1; replace hx162_2 := cB HB.out hx162_2; replace p162 := eq_true p162; replace q162 := eq_true q162; have p163 : 0 ≤ (0 : Int) := (by omega); have q163 : 0 < (l0.length : Int) := of_decide_eq_true (by with_reducible assumption); obtain ⟨ad163, e163, hx163_0, hx163_1, hx163_2⟩ := at_T55 HR0.out 0 p163 q163; obtain rfl : ad162 = ad163 := (by injection e163); have qi163 : (0 < l0.length) = True := eq_true (by omega); (try rw [show ((0 : Int)).toNat = 0 from rfl] at hx163_0); (try rw [show 0 * 3 = 0 from rfl] at hx163_0); (try rw [Addr.add_zero'] at hx163_0); (try rw [show ((0 : Int)).toNat = 0 from rfl] at hx163_1); (try rw [show 0 * 3 = 0 from rfl] at hx163_1); (try rw [Addr.add_zero'] at hx163_1); (try rw [show ((0 : Int)).toNat = 0 from rfl] at hx163_2); (try rw [show 0 * 3 = 0 from rfl] at hx163_2); (try rw [Addr.add_zero'] at hx163_2); replace hx163_0 := cB HB.out hx163_0; replace hx163_1 := cB HB.out hx163_1; replace hx163_2 := cB HB.out hx163_2; replace p163 := eq_true p163; replace q163 := eq_true q163)))
   go_loopg [8, 9, 10] k (fun kq v8 v9 v10 w' => ∃ (x8_1 : Int) (x9_1 : Int) (x10_1 : Int), v8 = .int .i64 x8_1 ∧ v9 = .int .i64 x9_1 ∧ v10 = .int .i64 x10_1 ∧ Aside0 (spec_CommonWind.l0 kq l0 a1 x8_1 x9_1 x10_1 = some (r1, r2, r3)) ∧ Aside0 (kq ≤ k) ∧ Aside0 (Below w.heap.size w w'))
   case atStart => exact ⟨((rd_T55 l0 0).f1), ((rd_T55 l0 0).f2), (0), (by first | rfl | (simp; done) | (simp [*]; done)), (by first | rfl | (simp; done) | (simp [*]; done)), (by first | rfl | (simp; done) | (simp [*]; done)), H', ⟨Nat.le_refl _⟩, ⟨by repeat (first | (with_reducible first | exact HB.out | apply lA | apply lN | apply lD) | exact HB.out)⟩⟩
   case round =>
    clear H'
    try clear p1
    try clear q1
    try clear hx1
    try clear qi1
    try clear c2
    try clear p2
    try clear c4
    try clear c4b0
    try clear c4b1
    try clear c5
    try clear c5b0
    try clear c5b1
    try clear hx162_0
    try clear hx162_1
    try clear hx162_2
    try clear hx163_0
    try clear hx163_1
    try clear hx163_2
    try clear p162
    try clear p163
    try clear q162
    try clear q163
    obtain ⟨x8_1, x9_1, x10_1, rfl, rfl, rfl, HA, HK1, HB⟩ := hrel
    cases gk with
    | zero => exact absurd HA.out (by simp [spec_CommonWind.l0])
    | succ k1 =>
     have H := HA.out
     clear HA
     simp only [spec_CommonWind.l0] at H
     replace H := Option.bind_eq_some_iff.mp H
     obtain ⟨t164, A70, H⟩ := H
     replace H : (if x10_1 ≤ t164 then (if 0 ≤ x10_1 then (if x10_1 < (l0.length : Int) then (spec_CommonWind.l0 k1 l0 a1 (mx x8_1 ((rd_T55 l0 x10_1).f1)) (mn x9_1 ((rd_T55 l0 x10_1).f2)) (wrap64 (x10_1 + 1))) else (none)) else (none)) else (if x8_1 > x9_1 then (some (0, 0, 5)) else (some (x8_1, x9_1, 0)))) = some (r1, r2, r3) := H
     have A7 := Aside0.mk A70
     clear A70
     by_cases c8 : x10_1 ≤ t164
     ·
      rw [if_pos c8] at H
      have c8b0 : decide (x10_1 ≤ t164) = true := decide_eq_true c8
      clear c8
      by_cases c9 : 0 ≤ x10_1
      ·
       rw [if_pos c9] at H
       have c9b0 : decide (0 ≤ x10_1) = true := decide_eq_true c9
       clear c9
       by_cases c10 : x10_1 < (l0.length : Int)
       ·
        rw [if_pos c10] at H
        have c10b0 : decide (x10_1 < (l0.length : Int)) = true := decide_eq_true c10
        clear c10
        obtain ⟨ji11, hji11⟩ : ∃ j_ : Int, (mx x8_1 ((rd_T55 l0 x10_1).f1)) = j_ := ⟨_, rfl⟩
        replace H : (spec_CommonWind.l0 k1 l0 a1 ji11 (mn x9_1 ((rd_T55 l0 x10_1).f2)) (wrap64 (x10_1 + 1))) = some (r1, r2, r3) := by first | (rw [hji11] at H; exact H) | (simp only [hji11] at H ⊢; exact H)
        (try rw [hji11] at A7)
        have hji11_ : (if x8_1 < ((rd_T55 l0 x10_1).f1) then ((rd_T55 l0 x10_1).f1) else x8_1) = ji11 := hji11
        obtain ⟨ji12, hji12⟩ : ∃ j_ : Int, (mn x9_1 ((rd_T55 l0 x10_1).f2)) = j_ := ⟨_, rfl⟩
        replace H : (spec_CommonWind.l0 k1 l0 a1 ji11 ji12 (wrap64 (x10_1 + 1))) = some (r1, r2, r3) := by first | (rw [hji12] at H; exact H) | (simp only [hji12] at H ⊢; exact H)
        (try rw [hji12] at A7)
        have hji12_ : (if ((rd_T55 l0 x10_1).f2) < x9_1 then ((rd_T55 l0 x10_1).f2) else x9_1) = ji12 := hji12
        have H' := Aside0.mk H
        clear H
        go_wp2_with (first | (go_at_call 54; (with_reducible refine (spec_l05Find.calls k1 _ _ l0 a1 t164 _ ?side1 ?side2 A7.out).mono ?_); (case side1 => repeat (first | exact (Kd.C_below HR0.out HB.out) | (with_reducible first | apply cA | apply cN | apply cD))); (case side2 => exact HC0.out); rintro e w' ⟨rfl, ⟨nd, rfl⟩⟩; (try first | exact ⟨rfl, _, World.drewN_drewN _ _ _⟩ | exact ⟨rfl, _, Eq.trans (World.drewN_drewN _ _ _) (congrArg (World.drewN _) (Nat.add_assoc _ _ _))⟩); have p165 : 0 ≤ (x10_1 : Int) := of_decide_eq_true (by with_reducible assumption); have q165 : x10_1 < (l0.length : Int) := of_decide_eq_true (by with_reducible assumption); obtain ⟨ad165, e165, hx165_0, hx165_1, hx165_2⟩ := at_T55 HR0.out x10_1 p165 q165; obtain rfl : ad162 = ad165 := (by injection e165); replace hx165_0 := cB HB.out hx165_0; replace hx165_1 := cB HB.out hx165_1; replace hx165_2 := cB HB.out hx165_2; replace p165 := eq_true p165; replace q165 := eq_true q165; have p166 : 0 ≤ (x10_1 : Int) := of_decide_eq_true (by with_reducible assumption); have q166 : x10_1 < (l0.length : Int) := of_decide_eq_true (by with_reducible assumption); obtain ⟨ad166, e166, hx166_0, hx166_1, hx166_2⟩ := at_T55 HR0.out x10_1 p166 q166; obtain rfl : ad162 = ad166 := (by injection e166); replace hx166_0 := cB HB.out hx166_0; replace hx166_1 := cB HB.out hx166_1; replace hx166_2 := cB HB.out hx166_2; replace p166 := eq_true p166; replace q166 := eq_true q166))
        repeat (go_quiet (first | (go_at_call 54; (with_reducible refine (spec_l05Find.calls k1 _ _ l0 a1 t164 _ ?side1 ?side2 A7.out).mono ?_); (case side1 => repeat (first | exact (Kd.C_below HR0.out HB.out) | (with_reducible first | apply cA | apply cN | apply cD))); (case side2 => exact HC0.out); rintro e w' ⟨rfl, ⟨nd, rfl⟩⟩; (try first | exact ⟨rfl, _, World.drewN_drewN _ _ _⟩ | exact ⟨rfl, _, Eq.trans (World.drewN_drewN _ _ _) (congrArg (World.drewN _) (Nat.add_assoc _ _ _))⟩); have p165 : 0 ≤ (x10_1 : Int) := of_decide_eq_true (by with_reducible assumption); have q165 : x10_1 < (l0.length : Int) := of_decide_eq_true (by with_reducible assumption); obtain ⟨ad165, e165, hx165_0, hx165_1, hx165_2⟩ := at_T55 HR0.out x10_1 p165 q165; obtain rfl : ad162 = ad165 := (by injection e165); replace hx165_0 := cB HB.out hx165_0; replace hx165_1 := cB HB.out hx165_1; replace hx165_2 := cB HB.out hx165_2; replace p165 := eq_true p165; replace q165 := eq_true q165; have p166 : 0 ≤ (x10_1 : Int) := of_decide_eq_true (by with_reducible assumption); have q166 : x10_1 < (l0.length : Int) := of_decide_eq_true (by with_reducible assumption); obtain ⟨ad166, e166, hx166_0, hx166_1, hx166_2⟩ := at_T55 HR0.out x10_1 p166 q166; obtain rfl : ad162 = ad166 := (by injection e166); replace hx166_0 := cB HB.out hx166_0; replace hx166_1 := cB HB.out hx166_1; replace hx166_2 := cB HB.out hx166_2; replace p166 := eq_true p166; replace q166 := eq_true q166)); try go_wp2_with (first | (go_at_call 54; (with_reducible refine (spec_l05Find.calls k1 _ _ l0 a1 t164 _ ?side1 ?side2 A7.out).mono ?_); (case side1 => repeat (first | exact (Kd.C_below HR0.out HB.out) | (with_reducible first | apply cA | apply cN | apply cD))); (case side2 => exact HC0.out); rintro e w' ⟨rfl, ⟨nd, rfl⟩⟩; (try first | exact ⟨rfl, _, World.drewN_drewN _ _ _⟩ | exact ⟨rfl, _, Eq.trans (World.drewN_drewN _ _ _) (congrArg (World.drewN _) (Nat.add_assoc _ _ _))⟩); have p165 : 0 ≤ (x10_1 : Int) := of_decide_eq_true (by with_reducible assumption); have q165 : x10_1 < (l0.length : Int) := of_decide_eq_true (by with_reducible assumption); obtain ⟨ad165, e165, hx165_0, hx165_1, hx165_2⟩ := at_T55 HR0.out x10_1 p165 q165; obtain rfl : ad162 = ad165 := (by injection e165); replace hx165_0 := cB HB.out hx165_0; replace hx165_1 := cB HB.out hx165_1; replace hx165_2 := cB HB.out hx165_2; replace p165 := eq_true p165; replace q165 := eq_true q165; have p166 : 0 ≤ (x10_1 : Int) := of_decide_eq_true (by with_reducible assumption); have q166 : x10_1 < (l0.length : Int) := of_decide_eq_true (by with_reducible assumption); obtain ⟨ad166, e166, hx166_0, hx166_1, hx166_2⟩ := at_T55 HR0.out x10_1 p166 q166; obtain rfl : ad162 = ad166 := (by injection e166); replace hx166_0 := cB HB.out hx166_0; replace hx166_1 := cB HB.out hx166_1; replace hx166_2 := cB HB.out hx166_2; replace p166 := eq_true p166; replace q166 := eq_true q166)))
        go_roundg k1
        case measure => have := HK1.out; omega
        case rel => exact ⟨(ji11), (ji12), (wrap64 (x10_1 + 1)), (by first | rfl | (simp; done) | (simp only [← hji11] <;> (first | rfl | simp)) | (simp [*]; done)), (by first | rfl | (simp; done) | (simp only [← hji12] <;> (first | rfl | simp)) | (simp [*]; done)), (by first | rfl | (simp; done) | (simp [*]; done)), (by first | exact H' | (simp only [hji11, hji12]; exact H') | (have H2_ := H'; simp only [← hji11, ← hji12] at H2_; exact H2_)), ⟨by have := HK1.out; omega⟩, ⟨by repeat (first | (with_reducible first | exact HB.out | apply lA | apply lN | apply lD) | exact HB.out)⟩⟩
       ·
        rw [if_neg c10] at H
        exact absurd H (by simp)
      ·
       rw [if_neg c9] at H
       exact absurd H (by simp)
     ·
      rw [if_neg c8] at H
      have c8b0 : decide (x10_1 ≤ t164) = false := decide_eq_false c8
      clear c8
      by_cases c13 : x8_1 > x9_1
      ·
       rw [if_pos c13] at H
       have c13b0 : decide (x9_1 < x8_1) = true := decide_eq_true c13
       clear c13
       simp only [Option.some.injEq, Prod.mk.injEq] at H
       obtain ⟨rfl, rfl, rfl⟩ := H
       go_wp2_with (first | (go_at_call 54; (with_reducible refine (spec_l05Find.calls k1 _ _ l0 a1 t164 _ ?side1 ?side2 A7.out).mono ?_); (case side1 => repeat (first | exact (Kd.C_below HR0.out HB.out) | (with_reducible first | apply cA | apply cN | apply cD))); (case side2 => exact HC0.out); rintro e w' ⟨rfl, ⟨nd, rfl⟩⟩; (try first | exact ⟨rfl, _, World.drewN_drewN _ _ _⟩ | exact ⟨rfl, _, Eq.trans (World.drewN_drewN _ _ _) (congrArg (World.drewN _) (Nat.add_assoc _ _ _))⟩)))
       repeat (go_quiet (first | (go_at_call 54; (with_reducible refine (spec_l05Find.calls k1 _ _ l0 a1 t164 _ ?side1 ?side2 A7.out).mono ?_); (case side1 => repeat (first | exact (Kd.C_below HR0.out HB.out) | (with_reducible first | apply cA | apply cN | apply cD))); (case side2 => exact HC0.out); rintro e w' ⟨rfl, ⟨nd, rfl⟩⟩; (try first | exact ⟨rfl, _, World.drewN_drewN _ _ _⟩ | exact ⟨rfl, _, Eq.trans (World.drewN_drewN _ _ _) (congrArg (World.drewN _) (Nat.add_assoc _ _ _))⟩))); try go_wp2_with (first | (go_at_call 54; (with_reducible refine (spec_l05Find.calls k1 _ _ l0 a1 t164 _ ?side1 ?side2 A7.out).mono ?_); (case side1 => repeat (first | exact (Kd.C_below HR0.out HB.out) | (with_reducible first | apply cA | apply cN | apply cD))); (case side2 => exact HC0.out); rintro e w' ⟨rfl, ⟨nd, rfl⟩⟩; (try first | exact ⟨rfl, _, World.drewN_drewN _ _ _⟩ | exact ⟨rfl, _, Eq.trans (World.drewN_drewN _ _ _) (congrArg (World.drewN _) (Nat.add_assoc _ _ _))⟩))))
       go_ret3
       exact ⟨by first | rfl | (simp [errW_none, errW_some] <;> rfl) | (simp [*, errW_none, errW_some] <;> rfl), by repeat (first | (with_reducible first | exact HB.out | apply lA | apply lN | apply lD) | exact HB.out)⟩
      ·
       rw [if_neg c13] at H
       have c13b0 : decide (x9_1 < x8_1) = false := decide_eq_false c13
       clear c13
       simp only [Option.some.injEq, Prod.mk.injEq] at H
       obtain ⟨rfl, rfl, rfl⟩ := H
       go_wp2_with (first | (go_at_call 54; (with_reducible refine (spec_l05Find.calls k1 _ _ l0 a1 t164 _ ?side1 ?side2 A7.out).mono ?_); (case side1 => repeat (first | exact (Kd.C_below HR0.out HB.out) | (with_reducible first | apply cA | apply cN | apply cD))); (case side2 => exact HC0.out); rintro e w' ⟨rfl, ⟨nd, rfl⟩⟩; (try first | exact ⟨rfl, _, World.drewN_drewN _ _ _⟩ | exact ⟨rfl, _, Eq.trans (World.drewN_drewN _ _ _) (congrArg (World.drewN _) (Nat.add_assoc _ _ _))⟩)))
       repeat (go_quiet (first | (go_at_call 54; (with_reducible refine (spec_l05Find.calls k1 _ _ l0 a1 t164 _ ?side1 ?side2 A7.out).mono ?_); (case side1 => repeat (first | exact (Kd.C_below HR0.out HB.out) | (with_reducible first | apply cA | apply cN | apply cD))); (case side2 => exact HC0.out); rintro e w' ⟨rfl, ⟨nd, rfl⟩⟩; (try first | exact ⟨rfl, _, World.drewN_drewN _ _ _⟩ | exact ⟨rfl, _, Eq.trans (World.drewN_drewN _ _ _) (congrArg (World.drewN _) (Nat.add_assoc _ _ _))⟩))); try go_wp2_with (first | (go_at_call 54; (with_reducible refine (spec_l05Find.calls k1 _ _ l0 a1 t164 _ ?side1 ?side2 A7.out).mono ?_); (case side1 => repeat (first | exact (Kd.C_below HR0.out HB.out) | (with_reducible first | apply cA | apply cN | apply cD))); (case side2 => exact HC0.out); rintro e w' ⟨rfl, ⟨nd, rfl⟩⟩; (try first | exact ⟨rfl, _, World.drewN_drewN _ _ _⟩ | exact ⟨rfl, _, Eq.trans (World.drewN_drewN _ _ _) (congrArg (World.drewN _) (Nat.add_assoc _ _ _))⟩))))
       go_ret3
       exact ⟨by first | rfl | (simp [errW_none, errW_some] <;> rfl) | (simp [*, errW_none, errW_some] <;> rfl), by repeat (first | (with_reducible first | exact HB.out | apply lA | apply lN | apply lD) | exact HB.out)⟩
  ·
   rw [if_neg c5] at H
   exact absurd H (by simp)
 ·
  rw [if_neg c4] at H
  have c4b0 : (t161 == 0) = false := beq_eq_false_iff_ne.mpr c4
  have c4b1 : (t161 != 0) = true := bne_iff_ne.mpr c4
  simp only [Option.some.injEq, Prod.mk.injEq] at H
  obtain ⟨rfl, rfl, rfl⟩ := H
  go_enter Try.func23, Try.ntmps23
  go_wp2_with (first | (go_at_call 53; (with_reducible refine (spec_l05Code.calls k _ _ l0 a1 t161 _ ?side1 ?side2 A3.out).mono ?_); (case side1 => repeat (first | exact HR0.out | (with_reducible first | apply cA | apply cN | apply cD))); (case side2 => exact HC0.out); rintro e w14 ⟨rfl, hb⟩; have n0_ := Aside0.mk (below_step (by repeat (first | (with_reducible first | exact HB.out | apply lA | apply lN | apply lD) | exact HB.out)) hb); clear HB; have HB := n0_; clear n0_; (try clear hb); (try clear hb2); (try clear hk); (try clear hi)))
  repeat (go_quiet (first | (go_at_call 53; (with_reducible refine (spec_l05Code.calls k _ _ l0 a1 t161 _ ?side1 ?side2 A3.out).mono ?_); (case side1 => repeat (first | exact HR0.out | (with_reducible first | apply cA | apply cN | apply cD))); (case side2 => exact HC0.out); rintro e w14 ⟨rfl, hb⟩; have n0_ := Aside0.mk (below_step (by repeat (first | (with_reducible first | exact HB.out | apply lA | apply lN | apply lD) | exact HB.out)) hb); clear HB; have HB := n0_; clear n0_; (try clear hb); (try clear hb2); (try clear hk); (try clear hi))); try go_wp2_with (first | (go_at_call 53; (with_reducible refine (spec_l05Code.calls k _ _ l0 a1 t161 _ ?side1 ?side2 A3.out).mono ?_); (case side1 => repeat (first | exact HR0.out | (with_reducible first | apply cA | apply cN | apply cD))); (case side2 => exact HC0.out); rintro e w14 ⟨rfl, hb⟩; have n0_ := Aside0.mk (below_step (by repeat (first | (with_reducible first | exact HB.out | apply lA | apply lN | apply lD) | exact HB.out)) hb); clear HB; have HB := n0_; clear n0_; (try clear hb); (try clear hb2); (try clear hk); (try clear hi))))
  go_ret3
  exact ⟨by first | rfl | (simp [errW_none, errW_some] <;> rfl) | (simp [*, errW_none, errW_some] <;> rfl), by repeat (first | (with_reducible first | exact HB.out | apply lA | apply lN | apply lD) | exact HB.out)⟩

end Go.Proofs.Ytidibjmckgbpbaa.QFnWinds
