/- IsCalm answers what the reference's answers, for all arguments; no condition. -/
import Derived.Test.YtidibjmckgbpbaaMa
import Derived.Test.YtidibjmckgbpbaaQFnExactIsCalmx
import Derived.Test.YtidibjmckgbpbaaHandFnExactIsCalm
namespace Go.Proofs.Ytidibjmckgbpbaa.GoFnExactIsCalm
open Go.RowKit Go.Proofs.Ytidibjmckgbpbaa.QFnExactIsCalm Go.Proofs.YtidibjmckgbpbaaW.PrintWords Go.Proofs.YtidibjmckgbpbaaW.PrintLast Go.Proofs.Ytidibjmckgbpbaa.Ma Go.Proofs.Ytidibjmckgbpbaa.HandFnExactIsCalm Go.Proofs.Ytidibjmckgbpbaa.HandFnExactIsCalm
set_option linter.unusedVariables false
set_option linter.unusedSimpArgs false

/-! ### layersTo, which leaves its parameter -/
theorem drawn_below {w w' : World} (h : Drawn0 w w') : Below w.heap.size w w' := by
  obtain ⟨n, rfl⟩ := h
  exact pw_below_drewN (Below.refl _ _) n
def LTo (l : List S55) (r1 : List S55) (r2 : Int) (w : World) (e : Ending) (w' : World) : Prop := ∃ (A1 : Option Addr) (c1 : Nat), e = .returned (.tuple #[.slice A1 r1.length c1, .int .i64 r2]) ∧ Kd.C k55 w' A1 r1.length r1 ∧ r1.length ≤ c1 ∧ Below w.heap.size w w'
set_option maxHeartbeats 8000000 in
set_option maxRecDepth 100000 in
theorem layersTo1 (k : Nat) (A0 : Option Addr) (c0 : Nat) (l : List S55) (a1 : Int) (b : Bool) (w : World) (hr0 : Kd.C k55 w A0 l.length l) (hc0 : l.length ≤ c0) (h161 : impl_IsProfile.f k l = some false) :
    Calls Try.prog 55 #[.slice A0 l.length c0, .int .i64 a1, .bool b] w fun e w' => LTo l [] 1 w e w' := by
  have HR0 := Aside0.mk hr0
  have HC0 := Aside0.mk hc0
  have HB := Aside0.mk (Below.refl w.heap.size w)
  clear hr0 hc0
  go_enter Try.func55, Try.ntmps55
  go_wp2_with (first | ((with_reducible refine gate_callee (f := 17) rfl ?_); refine goesL_ (some 10) rfl rfl Try.func17 (by kernel_rfl) rfl #[.slice A0 l.length c0] rfl (by (try simp only [List.map_toArray, List.map_cons, List.map_nil]); first | done | rfl | (simp only [List.length_drop, List.length_take]; rfl) | (go_simp; done) | (simp; done) | (simp; rfl)) ?_; (with_reducible refine (impl_IsProfile.calls k _ _ l false _ ?side1 ?side2 h161).mono ?_); (case side1 => repeat (first | exact (Kd.C_below HR0.out (by repeat (first | (with_reducible first | exact HB.out | apply below_alloc | apply pw_below_drewN | apply below_drew1) | exact HB.out))) | (with_reducible refine Kd.C_alloc ?_ _) | (with_reducible refine Kd.C_drewN ?_ _) | (with_reducible refine Kd.C_drew ?_))); (case side2 => exact HC0.out); rintro e w1 ⟨rfl, hb⟩; refine ⟨_, rfl, ?_⟩; have nb_ := Aside0.mk (below_step (by repeat (first | (with_reducible first | exact HB.out | apply below_alloc | apply pw_below_drewN | apply below_drew1) | exact HB.out)) hb); clear HB; have HB := nb_; clear nb_ hb))
  go_ret2
  exact ⟨none, 0, by first | rfl | (simp [errW_none, errW_some] <;> rfl) | (simp [*, errW_none, errW_some] <;> rfl), ⟨rfl, by simp, fun h => absurd h (by simp)⟩, by simp, by repeat (first | (with_reducible first | exact HB.out | apply below_alloc | apply pw_below_drewN | apply below_drew1) | exact HB.out)⟩

set_option maxHeartbeats 8000000 in
set_option maxRecDepth 100000 in
theorem layersTo2 (k : Nat) (A0 : Option Addr) (c0 : Nat) (l : List S55) (a1 : Int) (b t162 : Bool) (w : World) (hr0 : Kd.C k55 w A0 l.length l) (hc0 : l.length ≤ c0) (h161 : impl_IsProfile.f k l = some true) (h162 : impl_within.f a1 0 1000000 = some t162) (hbad : t162 = false ∨ b = false) :
    Calls Try.prog 55 #[.slice A0 l.length c0, .int .i64 a1, .bool b] w fun e w' => LTo l [] 2 w e w' := by
  have HR0 := Aside0.mk hr0
  have HC0 := Aside0.mk hc0
  have HB := Aside0.mk (Below.refl w.heap.size w)
  clear hr0 hc0
  rcases hbad with rfl | rfl
  · go_enter Try.func55, Try.ntmps55
    go_wp2_with (first | ((with_reducible refine gate_callee (f := 17) rfl ?_); refine goesL_ (some 10) rfl rfl Try.func17 (by kernel_rfl) rfl #[.slice A0 l.length c0] rfl (by (try simp only [List.map_toArray, List.map_cons, List.map_nil]); first | done | rfl | (simp only [List.length_drop, List.length_take]; rfl) | (go_simp; done) | (simp; done) | (simp; rfl)) ?_; (with_reducible refine (impl_IsProfile.calls k _ _ l true _ ?side1 ?side2 h161).mono ?_); (case side1 => repeat (first | exact (Kd.C_below HR0.out (by repeat (first | (with_reducible first | exact HB.out | apply below_alloc | apply pw_below_drewN | apply below_drew1) | exact HB.out))) | (with_reducible refine Kd.C_alloc ?_ _) | (with_reducible refine Kd.C_drewN ?_ _) | (with_reducible refine Kd.C_drew ?_))); (case side2 => exact HC0.out); rintro e w1 ⟨rfl, hb⟩; refine ⟨_, rfl, ?_⟩; have nb_ := Aside0.mk (below_step (by repeat (first | (with_reducible first | exact HB.out | apply below_alloc | apply pw_below_drewN | apply below_drew1) | exact HB.out)) hb); clear HB; have HB := nb_; clear nb_ hb) | ((with_reducible refine gate_callee (f := 51) rfl ?_); refine goesL_ (some 13) rfl rfl Try.func51 (by kernel_rfl) rfl #[.int .i64 a1, .int .i64 0, .int .i64 1000000] rfl (by (try simp only [List.map_toArray, List.map_cons, List.map_nil]); first | done | rfl | (simp only [List.length_drop, List.length_take]; rfl) | (go_simp; done) | (simp; done) | (simp; rfl)) ?_; (with_reducible refine (impl_within.calls _ _ _ false _ h162).mono ?_); rintro e w2 ⟨rfl, hd⟩; have hb := drawn_below hd; clear hd; refine ⟨_, rfl, ?_⟩; have nb_ := Aside0.mk (below_step (by repeat (first | (with_reducible first | exact HB.out | apply below_alloc | apply pw_below_drewN | apply below_drew1) | exact HB.out)) hb); clear HB; have HB := nb_; clear nb_ hb))
    go_ret2
    exact ⟨none, 0, by first | rfl | (simp [errW_none, errW_some] <;> rfl) | (simp [*, errW_none, errW_some] <;> rfl), ⟨rfl, by simp, fun h => absurd h (by simp)⟩, by simp, by repeat (first | (with_reducible first | exact HB.out | apply below_alloc | apply pw_below_drewN | apply below_drew1) | exact HB.out)⟩
  cases t162
  · go_enter Try.func55, Try.ntmps55
    go_wp2_with (first | ((with_reducible refine gate_callee (f := 17) rfl ?_); refine goesL_ (some 10) rfl rfl Try.func17 (by kernel_rfl) rfl #[.slice A0 l.length c0] rfl (by (try simp only [List.map_toArray, List.map_cons, List.map_nil]); first | done | rfl | (simp only [List.length_drop, List.length_take]; rfl) | (go_simp; done) | (simp; done) | (simp; rfl)) ?_; (with_reducible refine (impl_IsProfile.calls k _ _ l true _ ?side1 ?side2 h161).mono ?_); (case side1 => repeat (first | exact (Kd.C_below HR0.out (by repeat (first | (with_reducible first | exact HB.out | apply below_alloc | apply pw_below_drewN | apply below_drew1) | exact HB.out))) | (with_reducible refine Kd.C_alloc ?_ _) | (with_reducible refine Kd.C_drewN ?_ _) | (with_reducible refine Kd.C_drew ?_))); (case side2 => exact HC0.out); rintro e w1 ⟨rfl, hb⟩; refine ⟨_, rfl, ?_⟩; have nb_ := Aside0.mk (below_step (by repeat (first | (with_reducible first | exact HB.out | apply below_alloc | apply pw_below_drewN | apply below_drew1) | exact HB.out)) hb); clear HB; have HB := nb_; clear nb_ hb) | ((with_reducible refine gate_callee (f := 51) rfl ?_); refine goesL_ (some 13) rfl rfl Try.func51 (by kernel_rfl) rfl #[.int .i64 a1, .int .i64 0, .int .i64 1000000] rfl (by (try simp only [List.map_toArray, List.map_cons, List.map_nil]); first | done | rfl | (simp only [List.length_drop, List.length_take]; rfl) | (go_simp; done) | (simp; done) | (simp; rfl)) ?_; (with_reducible refine (impl_within.calls _ _ _ false _ h162).mono ?_); rintro e w2 ⟨rfl, hd⟩; have hb := drawn_below hd; clear hd; refine ⟨_, rfl, ?_⟩; have nb_ := Aside0.mk (below_step (by repeat (first | (with_reducible first | exact HB.out | apply below_alloc | apply pw_below_drewN | apply below_drew1) | exact HB.out)) hb); clear HB; have HB := nb_; clear nb_ hb))
    go_ret2
    exact ⟨none, 0, by first | rfl | (simp [errW_none, errW_some] <;> rfl) | (simp [*, errW_none, errW_some] <;> rfl), ⟨rfl, by simp, fun h => absurd h (by simp)⟩, by simp, by repeat (first | (with_reducible first | exact HB.out | apply below_alloc | apply pw_below_drewN | apply below_drew1) | exact HB.out)⟩
  · go_enter Try.func55, Try.ntmps55
    go_wp2_with (first | ((with_reducible refine gate_callee (f := 17) rfl ?_); refine goesL_ (some 10) rfl rfl Try.func17 (by kernel_rfl) rfl #[.slice A0 l.length c0] rfl (by (try simp only [List.map_toArray, List.map_cons, List.map_nil]); first | done | rfl | (simp only [List.length_drop, List.length_take]; rfl) | (go_simp; done) | (simp; done) | (simp; rfl)) ?_; (with_reducible refine (impl_IsProfile.calls k _ _ l true _ ?side1 ?side2 h161).mono ?_); (case side1 => repeat (first | exact (Kd.C_below HR0.out (by repeat (first | (with_reducible first | exact HB.out | apply below_alloc | apply pw_below_drewN | apply below_drew1) | exact HB.out))) | (with_reducible refine Kd.C_alloc ?_ _) | (with_reducible refine Kd.C_drewN ?_ _) | (with_reducible refine Kd.C_drew ?_))); (case side2 => exact HC0.out); rintro e w1 ⟨rfl, hb⟩; refine ⟨_, rfl, ?_⟩; have nb_ := Aside0.mk (below_step (by repeat (first | (with_reducible first | exact HB.out | apply below_alloc | apply pw_below_drewN | apply below_drew1) | exact HB.out)) hb); clear HB; have HB := nb_; clear nb_ hb) | ((with_reducible refine gate_callee (f := 51) rfl ?_); refine goesL_ (some 13) rfl rfl Try.func51 (by kernel_rfl) rfl #[.int .i64 a1, .int .i64 0, .int .i64 1000000] rfl (by (try simp only [List.map_toArray, List.map_cons, List.map_nil]); first | done | rfl | (simp only [List.length_drop, List.length_take]; rfl) | (go_simp; done) | (simp; done) | (simp; rfl)) ?_; (with_reducible refine (impl_within.calls _ _ _ true _ h162).mono ?_); rintro e w2 ⟨rfl, hd⟩; have hb := drawn_below hd; clear hd; refine ⟨_, rfl, ?_⟩; have nb_ := Aside0.mk (below_step (by repeat (first | (with_reducible first | exact HB.out | apply below_alloc | apply pw_below_drewN | apply below_drew1) | exact HB.out)) hb); clear HB; have HB := nb_; clear nb_ hb))
    go_ret2
    exact ⟨none, 0, by first | rfl | (simp [errW_none, errW_some] <;> rfl) | (simp [*, errW_none, errW_some] <;> rfl), ⟨rfl, by simp, fun h => absurd h (by simp)⟩, by simp, by repeat (first | (with_reducible first | exact HB.out | apply below_alloc | apply pw_below_drewN | apply below_drew1) | exact HB.out)⟩

set_option maxHeartbeats 8000000 in
set_option maxRecDepth 100000 in
theorem layersTo3 (k : Nat) (A0 : Option Addr) (c0 : Nat) (l : List S55) (a1 t163 : Int) (w : World) (hr0 : Kd.C k55 w A0 l.length l) (hc0 : l.length ≤ c0) (h161 : impl_IsProfile.f k l = some true) (h162 : impl_within.f a1 0 1000000 = some true) (h163 : impl_layerOf.f k l a1 = some t163) (hneg : t163 < 0) :
    Calls Try.prog 55 #[.slice A0 l.length c0, .int .i64 a1, .bool true] w fun e w' => LTo l [] 4 w e w' := by
  have HR0 := Aside0.mk hr0
  have HC0 := Aside0.mk hc0
  have HB := Aside0.mk (Below.refl w.heap.size w)
  have c1 : decide (t163 < 0) = true := decide_eq_true hneg
  clear hr0 hc0 hneg
  go_enter Try.func55, Try.ntmps55
  go_wp2_with (first | ((with_reducible refine gate_callee (f := 17) rfl ?_); refine goesL_ (some 10) rfl rfl Try.func17 (by kernel_rfl) rfl #[.slice A0 l.length c0] rfl (by (try simp only [List.map_toArray, List.map_cons, List.map_nil]); first | done | rfl | (simp only [List.length_drop, List.length_take]; rfl) | (go_simp; done) | (simp; done) | (simp; rfl)) ?_; (with_reducible refine (impl_IsProfile.calls k _ _ l true _ ?side1 ?side2 h161).mono ?_); (case side1 => repeat (first | exact (Kd.C_below HR0.out (by repeat (first | (with_reducible first | exact HB.out | apply below_alloc | apply pw_below_drewN | apply below_drew1) | exact HB.out))) | (with_reducible refine Kd.C_alloc ?_ _) | (with_reducible refine Kd.C_drewN ?_ _) | (with_reducible refine Kd.C_drew ?_))); (case side2 => exact HC0.out); rintro e w1 ⟨rfl, hb⟩; refine ⟨_, rfl, ?_⟩; have nb_ := Aside0.mk (below_step (by repeat (first | (with_reducible first | exact HB.out | apply below_alloc | apply pw_below_drewN | apply below_drew1) | exact HB.out)) hb); clear HB; have HB := nb_; clear nb_ hb) | ((with_reducible refine gate_callee (f := 51) rfl ?_); refine goesL_ (some 13) rfl rfl Try.func51 (by kernel_rfl) rfl #[.int .i64 a1, .int .i64 0, .int .i64 1000000] rfl (by (try simp only [List.map_toArray, List.map_cons, List.map_nil]); first | done | rfl | (simp only [List.length_drop, List.length_take]; rfl) | (go_simp; done) | (simp; done) | (simp; rfl)) ?_; (with_reducible refine (impl_within.calls _ _ _ true _ h162).mono ?_); rintro e w2 ⟨rfl, hd⟩; have hb := drawn_below hd; clear hd; refine ⟨_, rfl, ?_⟩; have nb_ := Aside0.mk (below_step (by repeat (first | (with_reducible first | exact HB.out | apply below_alloc | apply pw_below_drewN | apply below_drew1) | exact HB.out)) hb); clear HB; have HB := nb_; clear nb_ hb) | ((with_reducible refine gate_callee (f := 60) rfl ?_); refine goesL_ (some 21) rfl rfl Try.func60 (by kernel_rfl) rfl #[.slice A0 l.length c0, .int .i64 a1] rfl (by (try simp only [List.map_toArray, List.map_cons, List.map_nil]); first | done | rfl | (simp only [List.length_drop, List.length_take]; rfl) | (go_simp; done) | (simp; done) | (simp; rfl)) ?_; (with_reducible refine (impl_layerOf.calls k _ _ l a1 t163 _ ?side1 ?side2 h163).mono ?_); (case side1 => repeat (first | exact (Kd.C_below HR0.out (by repeat (first | (with_reducible first | exact HB.out | apply below_alloc | apply pw_below_drewN | apply below_drew1) | exact HB.out))) | (with_reducible refine Kd.C_alloc ?_ _) | (with_reducible refine Kd.C_drewN ?_ _) | (with_reducible refine Kd.C_drew ?_))); (case side2 => exact HC0.out); rintro e w3 ⟨rfl, hb⟩; refine ⟨_, rfl, ?_⟩; have nb_ := Aside0.mk (below_step (by repeat (first | (with_reducible first | exact HB.out | apply below_alloc | apply pw_below_drewN | apply below_drew1) | exact HB.out)) hb); clear HB; have HB := nb_; clear nb_ hb))
  go_ret2
  exact ⟨none, 0, by first | rfl | (simp [errW_none, errW_some] <;> rfl) | (simp [*, errW_none, errW_some] <;> rfl), ⟨rfl, by simp, fun h => absurd h (by simp)⟩, by simp, by repeat (first | (with_reducible first | exact HB.out | apply below_alloc | apply pw_below_drewN | apply below_drew1) | exact HB.out)⟩

set_option maxHeartbeats 8000000 in
set_option maxRecDepth 100000 in
theorem layersTo4 (k : Nat) (A0 : Option Addr) (c0 : Nat) (l M : List S55) (a1 t163 : Int) (w : World) (hr0 : Kd.C k55 w A0 l.length l) (hc0 : l.length ≤ c0) (h161 : impl_IsProfile.f k l = some true) (h162 : impl_within.f a1 0 1000000 = some true) (h163 : impl_layerOf.f k l a1 = some t163) (h0 : 0 ≤ t163) (h1 : t163 < l.length) (h2 : l.length ≤ 1000000000) (hM : M = l.take (t163 + 1).toNat) :
    Calls Try.prog 55 #[.slice A0 l.length c0, .int .i64 a1, .bool true] w fun e w' => LTo l M 0 w e w' := by
  have HR0 := Aside0.mk hr0
  have HC0 := Aside0.mk hc0
  have HB := Aside0.mk (Below.refl w.heap.size w)
  have c1 : decide (t163 < 0) = false := decide_eq_false (by omega)
  obtain ⟨i011, hi011, _, hsz11, _⟩ := info_parts info55
  have hw : wrap64 (t163 + 1) = t163 + 1 := by unfold wrap64; omega
  have hcut := cut_cap (P := Try.prog) 25 55 .i64 Try.underlying25 hi011 A0 l.length c0 (t163 + 1) (by omega) (by omega)
  have hMl : (t163 + 1).toNat = M.length := by rw [hM, List.length_take]; omega
  rw [hMl] at hcut
  have HM : ∀ {W : World}, Kd.C k55 W A0 l.length l → Kd.C k55 W A0 M.length M := by
    intro W h
    rw [hM]
    exact Kd.C_take (m := (t163 + 1).toNat) h (by omega)
  have hMc : M.length ≤ c0 := by omega
  obtain ⟨ji, hji⟩ : ∃ j_ : Int, t163 + 1 = j_ := ⟨_, rfl⟩
  have hj : IntKind.i64.wrap (t163 + 1) = ji := (i64_w _).trans (hw.trans hji)
  have hj2 : wrap64 (t163 + 1) = ji := hw.trans hji
  rw [hji] at hcut
  clear hr0 hc0 h0 h1 h2 hw hi011 hsz11 hM hMl hji
  go_enter Try.func55, Try.ntmps55
  go_wp2_with (first | ((with_reducible refine gate_callee (f := 17) rfl ?_); refine goesL_ (some 10) rfl rfl Try.func17 (by kernel_rfl) rfl #[.slice A0 l.length c0] rfl (by (try simp only [List.map_toArray, List.map_cons, List.map_nil]); first | done | rfl | (simp only [List.length_drop, List.length_take]; rfl) | (go_simp; done) | (simp; done) | (simp; rfl)) ?_; (with_reducible refine (impl_IsProfile.calls k _ _ l true _ ?side1 ?side2 h161).mono ?_); (case side1 => repeat (first | exact (Kd.C_below HR0.out (by repeat (first | (with_reducible first | exact HB.out | apply below_alloc | apply pw_below_drewN | apply below_drew1) | exact HB.out))) | (with_reducible refine Kd.C_alloc ?_ _) | (with_reducible refine Kd.C_drewN ?_ _) | (with_reducible refine Kd.C_drew ?_))); (case side2 => exact HC0.out); rintro e w1 ⟨rfl, hb⟩; refine ⟨_, rfl, ?_⟩; have nb_ := Aside0.mk (below_step (by repeat (first | (with_reducible first | exact HB.out | apply below_alloc | apply pw_below_drewN | apply below_drew1) | exact HB.out)) hb); clear HB; have HB := nb_; clear nb_ hb) | ((with_reducible refine gate_callee (f := 51) rfl ?_); refine goesL_ (some 13) rfl rfl Try.func51 (by kernel_rfl) rfl #[.int .i64 a1, .int .i64 0, .int .i64 1000000] rfl (by (try simp only [List.map_toArray, List.map_cons, List.map_nil]); first | done | rfl | (simp only [List.length_drop, List.length_take]; rfl) | (go_simp; done) | (simp; done) | (simp; rfl)) ?_; (with_reducible refine (impl_within.calls _ _ _ true _ h162).mono ?_); rintro e w2 ⟨rfl, hd⟩; have hb := drawn_below hd; clear hd; refine ⟨_, rfl, ?_⟩; have nb_ := Aside0.mk (below_step (by repeat (first | (with_reducible first | exact HB.out | apply below_alloc | apply pw_below_drewN | apply below_drew1) | exact HB.out)) hb); clear HB; have HB := nb_; clear nb_ hb) | ((with_reducible refine gate_callee (f := 60) rfl ?_); refine goesL_ (some 21) rfl rfl Try.func60 (by kernel_rfl) rfl #[.slice A0 l.length c0, .int .i64 a1] rfl (by (try simp only [List.map_toArray, List.map_cons, List.map_nil]); first | done | rfl | (simp only [List.length_drop, List.length_take]; rfl) | (go_simp; done) | (simp; done) | (simp; rfl)) ?_; (with_reducible refine (impl_layerOf.calls k _ _ l a1 t163 _ ?side1 ?side2 h163).mono ?_); (case side1 => repeat (first | exact (Kd.C_below HR0.out (by repeat (first | (with_reducible first | exact HB.out | apply below_alloc | apply pw_below_drewN | apply below_drew1) | exact HB.out))) | (with_reducible refine Kd.C_alloc ?_ _) | (with_reducible refine Kd.C_drewN ?_ _) | (with_reducible refine Kd.C_drew ?_))); (case side2 => exact HC0.out); rintro e w3 ⟨rfl, hb⟩; refine ⟨_, rfl, ?_⟩; have nb_ := Aside0.mk (below_step (by repeat (first | (with_reducible first | exact HB.out | apply below_alloc | apply pw_below_drewN | apply below_drew1) | exact HB.out)) hb); clear HB; have HB := nb_; clear nb_ hb))
  go_ret2
  exact ⟨A0, c0, by first | rfl | (simp [errW_none, errW_some] <;> rfl) | (simp [*, errW_none, errW_some] <;> rfl), HM (by repeat (first | exact (Kd.C_below HR0.out (by repeat (first | (with_reducible first | exact HB.out | apply below_alloc | apply pw_below_drewN | apply below_drew1) | exact HB.out))) | (with_reducible refine Kd.C_alloc ?_ _) | (with_reducible refine Kd.C_drewN ?_ _) | (with_reducible refine Kd.C_drew ?_))), hMc, by repeat (first | (with_reducible first | exact HB.out | apply below_alloc | apply pw_below_drewN | apply below_drew1) | exact HB.out)⟩


set_option maxHeartbeats 8000000 in
set_option maxRecDepth 100000 in
theorem windAt_ok (A0 : Option Addr) (c0 : Nat) (l M : List S55) (a1 : Int) (w : World) (hr0 : Kd.C k55 w A0 l.length l) (hTo : ∀ w, Kd.C k55 w A0 l.length l → Calls Try.prog 55 #[.slice A0 l.length c0, .int .i64 a1, .bool true] w fun e w' => LTo l M 0 w e w') (h1 : 1 ≤ M.length) (h2 : M.length ≤ 1000000000) :
    Calls Try.prog 20 #[.slice A0 l.length c0, .int .i64 a1] w fun e w' => e = .returned (.tuple #[.int .i64 (rd_T55 M ((M.length : Int) - 1)).f1, .int .i64 (rd_T55 M ((M.length : Int) - 1)).f2, .int .i64 0]) ∧ Below w.heap.size w w' := by
  have hu55 := Try.underlying55
  have HR0 := Aside0.mk hr0
  have HB := Aside0.mk (Below.refl w.heap.size w)
  obtain ⟨ji, hji⟩ : ∃ j_ : Int, (M.length : Int) - 1 = j_ := ⟨_, rfl⟩
  have hw : wrap64 ((M.length : Int) - 1) = ji := by unfold wrap64; omega
  have hjw : IntKind.i64.wrap ((M.length : Int) - 1) = ji := (i64_w _).trans hw
  have c6b0 : decide (0 ≤ ji) = true := decide_eq_true (by omega)
  have c7b0 : decide (ji < (M.length : Int)) = true := decide_eq_true (by omega)
  have p171 := eq_true (show 0 ≤ ji by omega)
  have q171 := eq_true (show ji < (M.length : Int) by omega)
  rw [hji]
  clear hr0 h1 h2 hji hw
  go_enter Try.func20, Try.ntmps20
  go_wp2_with (first | ((with_reducible refine gate_callee (f := 55) rfl ?_); refine goesL_ (some 13) rfl rfl Try.func55 (by kernel_rfl) rfl #[.slice A0 l.length c0, .int .i64 a1, .bool true] rfl (by (try simp only [List.map_toArray, List.map_cons, List.map_nil]); first | done | rfl | (simp only [List.length_drop, List.length_take]; rfl) | (go_simp; done) | (simp; done) | (simp; rfl)) ?_; (with_reducible refine (hTo _ ?side1).mono ?_); (case side1 => repeat (first | exact (Kd.C_below HR0.out (by repeat (first | (with_reducible first | exact HB.out | apply below_alloc | apply pw_below_drewN | apply below_drew1) | exact HB.out))) | (with_reducible refine Kd.C_alloc ?_ _) | (with_reducible refine Kd.C_drewN ?_ _) | (with_reducible refine Kd.C_drew ?_))); rintro e w1 ⟨A1, c1, rfl, hC, hcc, hb⟩; have HK := Aside0.mk hC; clear hC hcc; refine ⟨_, rfl, ?_⟩; have nb_ := Aside0.mk (below_step (by repeat (first | (with_reducible first | exact HB.out | apply below_alloc | apply pw_below_drewN | apply below_drew1) | exact HB.out)) hb); clear HB; have HB := nb_; clear nb_ hb; obtain ⟨ad171, e171, hx171_0, hx171_1, hx171_2⟩ := at_T55 HK.out ji (of_eq_true p171) (of_eq_true q171); cases e171) | ((with_reducible refine gate_dst (N := 9) rfl ?_); refine box_event ?hg (N := 9) ?hd (cs := #[.int .i64 0, .int .i64 0, .int .i64 0]) (t := 55) ?hr ?_; (case hd => rfl); (case hg => rfl); (case hr => first | (go_simp; done) | (go_simp; rfl)); intro gb172 hg w11 hbox hb; have GE172 := Aside0.mk ((by rw [hg]; exact (below_size (by repeat (first | (with_reducible first | exact HB.out | apply below_alloc | apply pw_below_drewN | apply below_drew1) | exact HB.out)))) : w.heap.size ≤ gb172); have nb_ := Aside0.mk (below_step (by repeat (first | (with_reducible first | exact HB.out | apply below_alloc | apply pw_below_drewN | apply below_drew1) | exact HB.out)) hb); clear HB; have HB := nb_; clear nb_ hb; have BK172 := Aside0.mk hbox; clear hbox hg; have hcz12_0 : w11.cell? ⟨gb172, 0, none⟩ = some (.int .i64 0) := (blk_cell BK172.out 0).trans rfl; have hcz12_1 : w11.cell? ⟨gb172, 1, none⟩ = some (.int .i64 0) := (blk_cell BK172.out 1).trans rfl; have hcz12_2 : w11.cell? ⟨gb172, 2, none⟩ = some (.int .i64 0) := (blk_cell BK172.out 2).trans rfl; have hfz12_0 := blk_frozen BK172.out 0; have hfz12_1 := blk_frozen BK172.out 1; have hfz12_2 := blk_frozen BK172.out 2))
  repeat (go_quiet (first | ((with_reducible refine gate_callee (f := 55) rfl ?_); refine goesL_ (some 13) rfl rfl Try.func55 (by kernel_rfl) rfl #[.slice A0 l.length c0, .int .i64 a1, .bool true] rfl (by (try simp only [List.map_toArray, List.map_cons, List.map_nil]); first | done | rfl | (simp only [List.length_drop, List.length_take]; rfl) | (go_simp; done) | (simp; done) | (simp; rfl)) ?_; (with_reducible refine (hTo _ ?side1).mono ?_); (case side1 => repeat (first | exact (Kd.C_below HR0.out (by repeat (first | (with_reducible first | exact HB.out | apply below_alloc | apply pw_below_drewN | apply below_drew1) | exact HB.out))) | (with_reducible refine Kd.C_alloc ?_ _) | (with_reducible refine Kd.C_drewN ?_ _) | (with_reducible refine Kd.C_drew ?_))); rintro e w1 ⟨A1, c1, rfl, hC, hcc, hb⟩; have HK := Aside0.mk hC; clear hC hcc; refine ⟨_, rfl, ?_⟩; have nb_ := Aside0.mk (below_step (by repeat (first | (with_reducible first | exact HB.out | apply below_alloc | apply pw_below_drewN | apply below_drew1) | exact HB.out)) hb); clear HB; have HB := nb_; clear nb_ hb; obtain ⟨ad171, e171, hx171_0, hx171_1, hx171_2⟩ := at_T55 HK.out ji (of_eq_true p171) (of_eq_true q171); cases e171) | ((with_reducible refine gate_dst (N := 9) rfl ?_); refine box_event ?hg (N := 9) ?hd (cs := #[.int .i64 0, .int .i64 0, .int .i64 0]) (t := 55) ?hr ?_; (case hd => rfl); (case hg => rfl); (case hr => first | (go_simp; done) | (go_simp; rfl)); intro gb172 hg w11 hbox hb; have GE172 := Aside0.mk ((by rw [hg]; exact (below_size (by repeat (first | (with_reducible first | exact HB.out | apply below_alloc | apply pw_below_drewN | apply below_drew1) | exact HB.out)))) : w.heap.size ≤ gb172); have nb_ := Aside0.mk (below_step (by repeat (first | (with_reducible first | exact HB.out | apply below_alloc | apply pw_below_drewN | apply below_drew1) | exact HB.out)) hb); clear HB; have HB := nb_; clear nb_ hb; have BK172 := Aside0.mk hbox; clear hbox hg; have hcz12_0 : w11.cell? ⟨gb172, 0, none⟩ = some (.int .i64 0) := (blk_cell BK172.out 0).trans rfl; have hcz12_1 : w11.cell? ⟨gb172, 1, none⟩ = some (.int .i64 0) := (blk_cell BK172.out 1).trans rfl; have hcz12_2 : w11.cell? ⟨gb172, 2, none⟩ = some (.int .i64 0) := (blk_cell BK172.out 2).trans rfl; have hfz12_0 := blk_frozen BK172.out 0; have hfz12_1 := blk_frozen BK172.out 1; have hfz12_2 := blk_frozen BK172.out 2)); try go_wp2_with (first | ((with_reducible refine gate_callee (f := 55) rfl ?_); refine goesL_ (some 13) rfl rfl Try.func55 (by kernel_rfl) rfl #[.slice A0 l.length c0, .int .i64 a1, .bool true] rfl (by (try simp only [List.map_toArray, List.map_cons, List.map_nil]); first | done | rfl | (simp only [List.length_drop, List.length_take]; rfl) | (go_simp; done) | (simp; done) | (simp; rfl)) ?_; (with_reducible refine (hTo _ ?side1).mono ?_); (case side1 => repeat (first | exact (Kd.C_below HR0.out (by repeat (first | (with_reducible first | exact HB.out | apply below_alloc | apply pw_below_drewN | apply below_drew1) | exact HB.out))) | (with_reducible refine Kd.C_alloc ?_ _) | (with_reducible refine Kd.C_drewN ?_ _) | (with_reducible refine Kd.C_drew ?_))); rintro e w1 ⟨A1, c1, rfl, hC, hcc, hb⟩; have HK := Aside0.mk hC; clear hC hcc; refine ⟨_, rfl, ?_⟩; have nb_ := Aside0.mk (below_step (by repeat (first | (with_reducible first | exact HB.out | apply below_alloc | apply pw_below_drewN | apply below_drew1) | exact HB.out)) hb); clear HB; have HB := nb_; clear nb_ hb; obtain ⟨ad171, e171, hx171_0, hx171_1, hx171_2⟩ := at_T55 HK.out ji (of_eq_true p171) (of_eq_true q171); cases e171) | ((with_reducible refine gate_dst (N := 9) rfl ?_); refine box_event ?hg (N := 9) ?hd (cs := #[.int .i64 0, .int .i64 0, .int .i64 0]) (t := 55) ?hr ?_; (case hd => rfl); (case hg => rfl); (case hr => first | (go_simp; done) | (go_simp; rfl)); intro gb172 hg w11 hbox hb; have GE172 := Aside0.mk ((by rw [hg]; exact (below_size (by repeat (first | (with_reducible first | exact HB.out | apply below_alloc | apply pw_below_drewN | apply below_drew1) | exact HB.out)))) : w.heap.size ≤ gb172); have nb_ := Aside0.mk (below_step (by repeat (first | (with_reducible first | exact HB.out | apply below_alloc | apply pw_below_drewN | apply below_drew1) | exact HB.out)) hb); clear HB; have HB := nb_; clear nb_ hb; have BK172 := Aside0.mk hbox; clear hbox hg; have hcz12_0 : w11.cell? ⟨gb172, 0, none⟩ = some (.int .i64 0) := (blk_cell BK172.out 0).trans rfl; have hcz12_1 : w11.cell? ⟨gb172, 1, none⟩ = some (.int .i64 0) := (blk_cell BK172.out 1).trans rfl; have hcz12_2 : w11.cell? ⟨gb172, 2, none⟩ = some (.int .i64 0) := (blk_cell BK172.out 2).trans rfl; have hfz12_0 := blk_frozen BK172.out 0; have hfz12_1 := blk_frozen BK172.out 1; have hfz12_2 := blk_frozen BK172.out 2)))
  go_ret3
  exact ⟨by first | rfl | (simp [errW_none, errW_some] <;> rfl) | (simp [*, errW_none, errW_some] <;> rfl), by repeat (first | (with_reducible first | exact HB.out | apply below_alloc | apply pw_below_drewN | apply below_drew1 | refine below_set ?_ GE172.out) | exact HB.out)⟩
set_option maxHeartbeats 8000000 in
set_option maxRecDepth 100000 in
theorem windAt_no (A0 : Option Addr) (c0 : Nat) (l : List S55) (a1 er : Int) (w : World) (hr0 : Kd.C k55 w A0 l.length l) (hTo : ∀ w, Kd.C k55 w A0 l.length l → Calls Try.prog 55 #[.slice A0 l.length c0, .int .i64 a1, .bool true] w fun e w' => LTo l [] er w e w') (h1 : er ≠ 0) :
    Calls Try.prog 20 #[.slice A0 l.length c0, .int .i64 a1] w fun e w' => e = .returned (.tuple #[.int .i64 0, .int .i64 0, .int .i64 er]) ∧ Below w.heap.size w w' := by
  have HR0 := Aside0.mk hr0
  have HB := Aside0.mk (Below.refl w.heap.size w)
  have c4b0 : (er == 0) = false := beq_eq_false_iff_ne.mpr h1
  have c4b1 : (er != 0) = true := bne_iff_ne.mpr h1
  clear hr0 h1
  go_enter Try.func20, Try.ntmps20
  go_wp2_with (first | ((with_reducible refine gate_callee (f := 55) rfl ?_); refine goesL_ (some 13) rfl rfl Try.func55 (by kernel_rfl) rfl #[.slice A0 l.length c0, .int .i64 a1, .bool true] rfl (by (try simp only [List.map_toArray, List.map_cons, List.map_nil]); first | done | rfl | (simp only [List.length_drop, List.length_take]; rfl) | (go_simp; done) | (simp; done) | (simp; rfl)) ?_; (with_reducible refine (hTo _ ?side1).mono ?_); (case side1 => repeat (first | exact (Kd.C_below HR0.out (by repeat (first | (with_reducible first | exact HB.out | apply below_alloc | apply pw_below_drewN | apply below_drew1) | exact HB.out))) | (with_reducible refine Kd.C_alloc ?_ _) | (with_reducible refine Kd.C_drewN ?_ _) | (with_reducible refine Kd.C_drew ?_))); rintro e w1 ⟨A1, c1, rfl, hC, hcc, hb⟩; clear hC hcc; refine ⟨_, rfl, ?_⟩; have nb_ := Aside0.mk (below_step (by repeat (first | (with_reducible first | exact HB.out | apply below_alloc | apply pw_below_drewN | apply below_drew1) | exact HB.out)) hb); clear HB; have HB := nb_; clear nb_ hb))
  go_ret3
  exact ⟨by first | rfl | (simp [errW_none, errW_some] <;> rfl) | (simp [*, errW_none, errW_some] <;> rfl), by repeat (first | (with_reducible first | exact HB.out | apply below_alloc | apply pw_below_drewN | apply below_drew1) | exact HB.out)⟩


/-! ### division, ranges -/
theorem in_eq (a b c : Int) : spec_l01In.f a b c = some (decide (b ≤ a ∧ a ≤ c)) := by
  unfold spec_l01In.f
  by_cases h : b ≤ a <;> simp [h]
theorem within_eq (a b c : Int) : impl_within.f a b c = some (decide (b ≤ a ∧ a ≤ c)) := by
  unfold impl_within.f
  by_cases h : b ≤ a <;> simp [h]
theorem tdiv_floor {a b : Int} (hb : 0 < b) : (Int.tmod a b < 0 → Int.tdiv a b - 1 = a / b) ∧ (¬ Int.tmod a b < 0 → Int.tdiv a b = a / b) := by
  have h1 := Int.tdiv_eq_ediv (a := a) (b := b)
  have h2 := Int.tmod_eq_emod (a := a) (b := b)
  have h3 := Int.emod_nonneg a (show b ≠ 0 by omega)
  have h4 := Int.emod_lt_of_pos a hb
  by_cases h : 0 ≤ a ∨ b ∣ a
  · rw [if_pos h] at h1 h2
    omega
  · rw [if_neg h] at h1 h2
    rw [Int.sign_eq_one_of_pos hb] at h1
    omega
theorem ediv_small {a b : Int} (hb : 0 < b) (h : -4611686018427387904 ≤ a) (h' : a ≤ 4611686018427387904) : -4611686018427387904 ≤ a / b ∧ a / b ≤ 4611686018427387904 := by
  have h1 : -4611686018427387904 * b ≤ a := by
    have := Int.mul_le_mul_of_nonneg_left (show 1 ≤ b by omega) (show (0 : Int) ≤ 4611686018427387904 by omega); omega
  have h2 : a < (4611686018427387904 + 1) * b := by
    have := Int.mul_le_mul_of_nonneg_left (show 1 ≤ b by omega) (show (0 : Int) ≤ 4611686018427387905 by omega); omega
  have h3 := (Int.le_ediv_iff_mul_le hb).2 h1
  have h4 := (Int.ediv_lt_iff_lt_mul hb).2 h2
  omega
/-! ### profiles -/
def layB (x : S55) : Bool := decide (1 ≤ x.f0 ∧ x.f0 ≤ 1000000) && (decide (-50000 ≤ x.f1 ∧ x.f1 ≤ 50000) && decide (x.f1 ≤ x.f2 ∧ x.f2 ≤ 50000))
def profL : Option S55 → List S55 → Bool
  | _, [] => true
  | none, x :: R => layB x && profL (some x) R
  | some q, x :: R => layB x && (decide (q.f0 < x.f0) && profL (some x) R)
def profB (m : List S55) : Bool := decide (1 ≤ m.length ∧ m.length ≤ 6) && profL none m
def prevAt (l : List S55) (i : Nat) : Option S55 := if i = 0 then none else some (rdOf z55 l ((i : Int) - 1))
theorem prev_next {l R : List S55} {i : Nat} {c : S55} (h : l.drop i = c :: R) : prevAt l (i + 1) = some c := by
  obtain ⟨h1, h2, h3⟩ := rdOf_drop (d := z55) h
  unfold prevAt
  rw [if_neg (by omega), show ((i + 1 : Nat) : Int) - 1 = (i : Int) by omega, h2]
theorem spec_IsProfile_l0 (l : List S55) (hl : l.length ≤ 4611686018427387904) : ∀ (R : List S55) (i : Nat), l.drop i = R → Ev (fun k => spec_IsProfile.l0 k l i) (profL (prevAt l i) R && decide (1 ≤ l.length ∧ l.length ≤ 6)) := by
  intro R
  induction R with
  | nil =>
    intro i h
    have := drop_nil h
    refine Ev.step (fun k => spec_IsProfile.l0.eq_2 ..) (ev_neg (by omega) (ev_bind0 (in_eq ..) (ev_ret ?_)))
    have e : profL (prevAt l i) [] = true := by unfold profL; rfl
    rw [e, Bool.true_and]
    exact decide_eq_decide.2 (by omega)
  | cons c R ih =>
    intro i h
    obtain ⟨h1, h2, h3⟩ := rdOf_drop (d := z55) h
    have h2' : rd_T55 l (i : Int) = c := h2
    refine Ev.step (fun k => spec_IsProfile.l0.eq_2 ..) (ev_pos (by omega) (ev_pos (by omega) ?_))
    rw [h2', w64 (n := (i : Int) + 1) (by omega) (by omega)]
    have hn := ih (i + 1) h3
    rw [prev_next h] at hn
    refine ev_bind0 (in_eq ..) ?_
    by_cases a : 1 ≤ c.f0 ∧ c.f0 ≤ 1000000
    · refine ev_pos (by simpa using a) (ev_bind0 (in_eq ..) ?_)
      by_cases b : -50000 ≤ c.f1 ∧ c.f1 ≤ 50000
      · refine ev_pos (by simpa using b) (ev_bind0 (in_eq ..) ?_)
        by_cases d : c.f1 ≤ c.f2 ∧ c.f2 ≤ 50000
        · refine ev_pos (by simpa using d) ?_
          have hc : layB c = true := by unfold layB; simp [a, b, d]
          by_cases g : (i : Int) > 0
          · refine ev_pos g ?_
            rw [w64 (n := (i : Int) - 1) (by omega) (by omega)]
            refine ev_pos (by omega) (ev_pos (by omega) ?_)
            have hp : prevAt l i = some (rdOf z55 l ((i : Int) - 1)) := by unfold prevAt; rw [if_neg (by omega)]
            rw [hp]
            by_cases u : (rd_T55 l ((i : Int) - 1)).f0 ≥ c.f0
            · refine ev_pos u (ev_ret ?_)
              have u' : ¬ (rdOf z55 l ((i : Int) - 1)).f0 < c.f0 := by
                have : rd_T55 l ((i : Int) - 1) = rdOf z55 l ((i : Int) - 1) := rfl
                rw [← this]; omega
              simp [profL, u']
            · refine ev_neg u ?_
              have u' : (rdOf z55 l ((i : Int) - 1)).f0 < c.f0 := by
                have : rd_T55 l ((i : Int) - 1) = rdOf z55 l ((i : Int) - 1) := rfl
                rw [← this]; omega
              have e : profL (some (rdOf z55 l ((i : Int) - 1))) (c :: R) = profL (some c) R := by simp [profL, hc, u']
              rw [e]; exact hn
          · refine ev_neg g ?_
            have hp : prevAt l i = none := by unfold prevAt; rw [if_pos (by omega)]
            have e : profL none (c :: R) = profL (some c) R := by simp [profL, hc]
            rw [hp, e]; exact hn
        · refine ev_neg (by simpa using d) (ev_ret ?_)
          have hc : layB c = false := by unfold layB; simp [d]
          cases prevAt l i <;> simp [profL, hc]
      · refine ev_neg (by simpa using b) (ev_ret ?_)
        have hc : layB c = false := by unfold layB; simp [b]
        cases prevAt l i <;> simp [profL, hc]
    · refine ev_neg (by simpa using a) (ev_ret ?_)
      have hc : layB c = false := by unfold layB; simp [a]
      cases prevAt l i <;> simp [profL, hc]
theorem spec_IsProfile_ev (l : List S55) (hl : l.length ≤ 4611686018427387904) : Ev (fun k => spec_IsProfile.f k l) (profB l) := by
  have h := spec_IsProfile_l0 l hl l 0 rfl
  have e : profB l = (profL (prevAt l 0) l && decide (1 ≤ l.length ∧ l.length ≤ 6)) := by unfold profB prevAt; rw [if_pos rfl, Bool.and_comm]
  rw [e]; exact h
theorem isSide_eq (n : Int) : impl_isSide.f n = some (decide (-50000 ≤ n ∧ n ≤ 50000)) := by unfold impl_isSide.f; rw [within_eq]; rfl
theorem areWinds_eq (a b : Int) : impl_areWinds.f a b = some (decide (-50000 ≤ a ∧ a ≤ 50000) && decide (a ≤ b ∧ b ≤ 50000)) := by
  unfold impl_areWinds.f
  rw [isSide_eq, isSide_eq]
  simp only [Option.bind_some]
  by_cases h : -50000 ≤ a ∧ a ≤ 50000
  · rw [if_pos (by simpa using h)]
    by_cases g : -50000 ≤ b ∧ b ≤ 50000
    · rw [if_pos (by simpa using g)]
      simp [h]; omega
    · rw [if_neg (by simpa using g)]
      simp [h]; omega
  · rw [if_neg (by simpa using h)]
    simp [h]
theorem impl_IsProfile_l0 (l : List S55) (hl : l.length ≤ 4611686018427387904) : ∀ (R : List S55) (i : Nat), l.drop i = R → Ev (fun k => impl_IsProfile.l0 k l l (l.length : Int) i) (profL (prevAt l i) R) := by
  intro R
  induction R with
  | nil =>
    intro i h
    have := drop_nil h
    refine Ev.step (fun k => impl_IsProfile.l0.eq_2 ..) (ev_neg (by omega) (ev_ret ?_))
    unfold profL; rfl
  | cons c R ih =>
    intro i h
    obtain ⟨h1, h2, h3⟩ := rdOf_drop (d := z55) h
    have h2' : rd_T55 l (i : Int) = c := h2
    refine Ev.step (fun k => impl_IsProfile.l0.eq_2 ..) (ev_pos (by omega) (ev_pos (by omega) (ev_pos (by omega) ?_)))
    rw [h2', w64 (n := (i : Int) + 1) (by omega) (by omega)]
    have hn := ih (i + 1) h3
    rw [prev_next h] at hn
    refine ev_bind0 (within_eq ..) ?_
    by_cases a : 1 ≤ c.f0 ∧ c.f0 ≤ 1000000
    · refine ev_pos (by simpa using a) (ev_bind0 (areWinds_eq ..) ?_)
      by_cases b : (decide (-50000 ≤ c.f1 ∧ c.f1 ≤ 50000) && decide (c.f1 ≤ c.f2 ∧ c.f2 ≤ 50000)) = true
      · refine ev_pos b ?_
        have hc : layB c = true := by unfold layB; rw [b]; simp [a]
        by_cases g : (i : Int) > 0
        · refine ev_pos g ?_
          rw [w64 (n := (i : Int) - 1) (by omega) (by omega)]
          refine ev_pos (by omega) (ev_pos (by omega) ?_)
          have hp : prevAt l i = some (rdOf z55 l ((i : Int) - 1)) := by unfold prevAt; rw [if_neg (by omega)]
          rw [hp]
          by_cases u : (rd_T55 l ((i : Int) - 1)).f0 ≥ c.f0
          · refine ev_pos u (ev_ret ?_)
            have u' : ¬ (rdOf z55 l ((i : Int) - 1)).f0 < c.f0 := by
              have : rd_T55 l ((i : Int) - 1) = rdOf z55 l ((i : Int) - 1) := rfl
              rw [← this]; omega
            simp [profL, u']
          · refine ev_neg u ?_
            have u' : (rdOf z55 l ((i : Int) - 1)).f0 < c.f0 := by
              have : rd_T55 l ((i : Int) - 1) = rdOf z55 l ((i : Int) - 1) := rfl
              rw [← this]; omega
            have e : profL (some (rdOf z55 l ((i : Int) - 1))) (c :: R) = profL (some c) R := by simp [profL, hc, u']
            rw [e]; exact hn
        · refine ev_neg g ?_
          have hp : prevAt l i = none := by unfold prevAt; rw [if_pos (by omega)]
          have e : profL none (c :: R) = profL (some c) R := by simp [profL, hc]
          rw [hp, e]; exact hn
      · refine ev_neg b (ev_ret ?_)
        have hc : layB c = false := by unfold layB; simp only [Bool.not_eq_true] at b; rw [b]; simp
        cases prevAt l i <;> simp [profL, hc]
    · refine ev_neg (by simpa using a) (ev_ret ?_)
      have hc : layB c = false := by unfold layB; simp [a]
      cases prevAt l i <;> simp [profL, hc]
theorem impl_IsProfile_ev (l : List S55) (hl : l.length ≤ 4611686018427387904) : Ev (fun k => impl_IsProfile.f k l) (profB l) := by
  have h := impl_IsProfile_l0 l hl l 0 rfl
  have e0 : prevAt l 0 = none := by unfold prevAt; rw [if_pos rfl]
  rw [e0] at h
  unfold impl_IsProfile.f profB
  by_cases a : (l.length : Int) < 1
  · refine ev_pos a (Ev.step (fun k => impl_IsProfile.j0.eq_2 ..) (ev_pos rfl (ev_ret ?_)))
    simp; omega
  · refine ev_neg a (Ev.step (fun k => impl_IsProfile.j0.eq_2 ..) ?_)
    by_cases b : (l.length : Int) > 6
    · refine ev_pos (by simpa using b) (ev_ret ?_)
      simp; omega
    · refine ev_neg (by simpa using b) ?_
      have e : (decide (1 ≤ l.length ∧ l.length ≤ 6) && profL none l) = profL none l := by
        simp; intro _; omega
      rw [e]; exact h

/-! ### the first gust -/
def findF (h : Int) : List S55 → Nat → Int
  | [], _ => -1
  | c :: R, i => if h ≤ c.f0 then (i : Int) else findF h R (i + 1)
def findM (l : List S55) (h : Int) : Int := findF h l 0
theorem findF_lt (h : Int) : ∀ (R : List S55) (i : Nat), findF h R i < (i + R.length : Nat) ∧ -1 ≤ findF h R i
  | [], i => by unfold findF; constructor <;> omega
  | c :: R, i => by
    unfold findF
    have := findF_lt h R (i + 1)
    simp only [List.length_cons]
    split
    · omega
    · omega
theorem findM_lt (l : List S55) (h : Int) : findM l h < (l.length : Int) := by have := (findF_lt h l 0).1; unfold findM; omega
theorem impl_layerOf_l0 (l : List S55) (hl : l.length ≤ 4611686018427387904) (h : Int) : ∀ (R : List S55) (i : Nat), l.drop i = R → Ev (fun k => impl_layerOf.l0 k h l (l.length : Int) i) (findF h R i) := by
  intro R
  induction R with
  | nil =>
    intro i e
    have := drop_nil e
    exact Ev.step (fun k => impl_layerOf.l0.eq_2 ..) (ev_neg (by omega) (Ev.now _))
  | cons c R ih =>
    intro i e
    obtain ⟨h1, h2, h3⟩ := rdOf_drop (d := z55) e
    have h2' : rd_T55 l (i : Int) = c := h2
    refine Ev.step (fun k => impl_layerOf.l0.eq_2 ..) (ev_pos (by omega) (ev_pos (by omega) (ev_pos (by omega) ?_)))
    rw [h2', w64 (n := (i : Int) + 1) (by omega) (by omega)]
    unfold findF
    by_cases g : h ≤ c.f0
    · exact ev_pos g (ev_ret (by rw [if_pos g]))
    · rw [if_neg g]; exact ev_neg g (ih (i + 1) h3)
theorem impl_layerOf_ev (l : List S55) (hl : l.length ≤ 4611686018427387904) (h : Int) : Ev (fun k => impl_layerOf.f k l h) (findM l h) := impl_layerOf_l0 l hl h l 0 rfl
theorem spec_l05Find_l0 (l : List S55) (hl : l.length ≤ 4611686018427387904) (h : Int) : ∀ (R : List S55) (i : Nat), l.drop i = R → Ev (fun k => spec_l05Find.l0 k l h i) (findF h R i) := by
  intro R
  induction R with
  | nil =>
    intro i e
    have := drop_nil e
    exact Ev.step (fun k => spec_l05Find.l0.eq_2 ..) (ev_neg (by omega) (Ev.now _))
  | cons c R ih =>
    intro i e
    obtain ⟨h1, h2, h3⟩ := rdOf_drop (d := z55) e
    have h2' : rd_T55 l (i : Int) = c := h2
    refine Ev.step (fun k => spec_l05Find.l0.eq_2 ..) (ev_pos (by omega) (ev_pos (by omega) ?_))
    rw [h2', w64 (n := (i : Int) + 1) (by omega) (by omega)]
    unfold findF
    by_cases g : h ≤ c.f0
    · exact ev_pos g (ev_ret (by rw [if_pos g]))
    · rw [if_neg g]; exact ev_neg (by omega) (ih (i + 1) h3)
theorem spec_l05Find_ev (l : List S55) (hl : l.length ≤ 4611686018427387904) (h : Int) : Ev (fun k => spec_l05Find.f k l h) (findM l h) := spec_l05Find_l0 l hl h l 0 rfl
def windM (l : List S55) (h : Int) : Int × Int × Int :=
  if profB l = true then (if 0 ≤ h ∧ h ≤ 1000000 then (if findM l h < 0 then (0, 0, 4) else ((rd_T55 l (findM l h)).f1, (rd_T55 l (findM l h)).f2, 0)) else (0, 0, 2)) else (0, 0, 1)
theorem spec_l05Code_ev (l : List S55) (hl : l.length ≤ 1000000000) (h : Int) : Ev (fun k => spec_l05Code.f k l h) (if profB l = true then (if 0 ≤ h ∧ h ≤ 1000000 then (if findM l h < 0 then 4 else 0) else 2) else 1) := by
  refine (spec_IsProfile_ev l (by omega)).bind ?_
  by_cases a : profB l = true
  · refine ev_pos a (ev_bind0 (in_eq ..) ?_)
    by_cases b : 0 ≤ h ∧ h ≤ 1000000
    · refine ev_pos (by simpa using b) ((spec_l05Find_ev l (by omega) h).bind ?_)
      by_cases c : findM l h < 0
      · exact ev_pos c (ev_ret (by rw [if_pos a, if_pos b, if_pos c]))
      · exact ev_neg c (ev_ret (by rw [if_pos a, if_pos b, if_neg c]))
    · exact ev_neg (by simpa using b) (ev_ret (by rw [if_pos a, if_neg b]))
  · exact ev_neg a (ev_ret (by rw [if_neg a]))
theorem take_last (l : List S55) {t : Int} (h0 : 0 ≤ t) (h1 : t < l.length) : rd_T55 (l.take (t + 1).toNat) (((l.take (t + 1).toNat).length : Int) - 1) = rd_T55 l t := by
  have hl : (l.take (t + 1).toNat).length = (t + 1).toNat := by rw [List.length_take]; omega
  rw [hl, show (((t + 1).toNat : Nat) : Int) - 1 = t by omega]
  unfold rd_T55
  simp only [List.getD_eq_getElem?_getD, List.getElem?_take]
  rw [if_pos (by omega)]
theorem within_f (h : Int) : impl_within.f h 0 1000000 = some (decide (0 ≤ h ∧ h ≤ 1000000)) := within_eq ..
theorem impl_WindAt_own (l : List S55) (hl : l.length ≤ 1000000000) (h : Int) : ∀ (A : Option Addr) (c : Nat) (w : World), Kd.C k55 w A l.length l → l.length ≤ c → Calls Try.prog 20 #[.slice A l.length c, .int .i64 h] w fun e w' => e = .returned (.tuple #[.int .i64 (windM l h).1, .int .i64 (windM l h).2.1, .int .i64 (windM l h).2.2]) ∧ Below w.heap.size w w' := by
  intro A c w hC hc
  obtain ⟨K1, e1⟩ := impl_IsProfile_ev l (by omega)
  obtain ⟨K2, e2⟩ := impl_layerOf_ev l (by omega) h
  have e1 := e1 (K1 + K2) (by omega)
  have e2 := e2 (K1 + K2) (by omega)
  have hlt := findM_lt l h
  have hw := within_f h
  unfold windM
  by_cases a : profB l = true
  · rw [a] at e1
    by_cases b : 0 ≤ h ∧ h ≤ 1000000
    · rw [decide_eq_true b] at hw
      by_cases d : findM l h < 0
      · simp only [a, b, d, if_true, and_self]
        exact windAt_no A c l h 4 w hC (fun w hC => layersTo3 (K1 + K2) A c l h _ w hC hc e1 hw e2 d) (by decide)
      · simp only [a, b, d, if_true, if_false, and_self]
        have hM : (l.take (findM l h + 1).toNat).length = (findM l h + 1).toNat := by rw [List.length_take]; omega
        have := windAt_ok A c l (l.take (findM l h + 1).toNat) h w hC (fun w hC => layersTo4 (K1 + K2) A c l _ h _ w hC hc e1 hw e2 (by omega) hlt hl rfl) (by omega) (by omega)
        rw [take_last l (by omega) hlt] at this
        exact this
    · rw [decide_eq_false b] at hw
      simp only [a, b, if_true, if_false]
      exact windAt_no A c l h 2 w hC (fun w hC => layersTo2 (K1 + K2) A c l h true false w hC hc e1 hw (.inl rfl)) (by decide)
  · have a' : profB l = false := by simpa using a
    rw [a'] at e1
    simp only [a', if_false, Bool.false_eq_true]
    exact windAt_no A c l h 1 w hC (fun w hC => layersTo1 (K1 + K2) A c l h true w hC hc e1) (by decide)

/-! ### the widest and the common wind, calm -/
def wideF : List S55 → Int × Int → Int × Int
  | [], r => r
  | c :: R, r => wideF R (mn r.1 c.f1, mx r.2 c.f2)
def commF : List S55 → Int × Int → Int × Int
  | [], r => r
  | c :: R, r => commF R (mx r.1 c.f1, mn r.2 c.f2)
def partM (l : List S55) (h : Int) : List S55 := l.take (findM l h + 1).toNat
def codeM (l : List S55) (h : Int) : Int := if profB l = true then (if 0 ≤ h ∧ h ≤ 1000000 then (if findM l h < 0 then 4 else 0) else 2) else 1
def wideR (l : List S55) (h : Int) : Int × Int := wideF (partM l h) ((rd_T55 l 0).f1, (rd_T55 l 0).f2)
def commR (l : List S55) (h : Int) : Int × Int := commF (partM l h) ((rd_T55 l 0).f1, (rd_T55 l 0).f2)
def wideM (l : List S55) (h : Int) : Int × Int × Int := if codeM l h = 0 then ((wideR l h).1, (wideR l h).2, 0) else (0, 0, codeM l h)
def commM (l : List S55) (h : Int) : Int × Int × Int := if codeM l h = 0 then (if (commR l h).1 > (commR l h).2 then (0, 0, 5) else ((commR l h).1, (commR l h).2, 0)) else (0, 0, codeM l h)
def calmL (R : List S55) (m : Int) : Bool := decide (∀ c ∈ R, -m ≤ c.f1 ∧ c.f2 ≤ m)
def calmH (h m : Int) : Int := if 0 ≤ m ∧ m ≤ 50000 then h else -1
def calmM (l : List S55) (h m : Int) : Bool × Int := if codeM l (calmH h m) = 0 then (calmL (partM l h) m, 0) else (false, codeM l (calmH h m))
theorem codeM_zero {l : List S55} {h : Int} (e : codeM l h = 0) : profB l = true ∧ (0 ≤ h ∧ h ≤ 1000000) ∧ 0 ≤ findM l h := by
  unfold codeM at e
  split at e
  · split at e
    · split at e
      · omega
      · refine ⟨by assumption, by assumption, by omega⟩
    · omega
  · omega
theorem profB_len {l : List S55} (h : profB l = true) : 1 ≤ l.length ∧ l.length ≤ 6 := by
  unfold profB at h
  simp only [Bool.and_eq_true, decide_eq_true_eq] at h
  exact h.1
theorem spec_l05Code_ev' (l : List S55) (hl : l.length ≤ 1000000000) (h : Int) : Ev (fun k => spec_l05Code.f k l h) (codeM l h) := spec_l05Code_ev l hl h
theorem part_drop {l R : List S55} {t : Int} {i : Nat} {c : S55} (h : (l.take (t + 1).toNat).drop i = c :: R) : (i : Int) ≤ t ∧ i < l.length ∧ rd_T55 l (i : Int) = c ∧ (l.take (t + 1).toNat).drop (i + 1) = R := by
  obtain ⟨h1, h2, h3⟩ := drop_cons h
  rw [List.length_take] at h1
  rw [List.getElem?_take, if_pos (by omega)] at h2
  refine ⟨by omega, by omega, ?_, h3⟩
  unfold rd_T55
  rw [Int.toNat_natCast, List.getD_eq_getElem?_getD, h2]; rfl
theorem spec_l05Widest_l0 (l : List S55) (hl : l.length ≤ 1000000000) (h : Int) (h1 : findM l h < l.length) : ∀ (R : List S55) (i : Nat) (a b : Int), (partM l h).drop i = R → Ev (fun k => spec_l05Widest.l0 k l h a b i) (wideF R (a, b)) := by
  intro R
  induction R with
  | nil =>
    intro i a b e
    have := drop_nil e
    unfold partM at this
    rw [List.length_take] at this
    exact Ev.step (fun k => spec_l05Widest.l0.eq_2 ..) ((spec_l05Find_ev l (by omega) h).bind (ev_neg (by omega) (Ev.now _)))
  | cons c R ih =>
    intro i a b e
    obtain ⟨g1, g2, g3, g4⟩ := part_drop e
    refine Ev.step (fun k => spec_l05Widest.l0.eq_2 ..) ((spec_l05Find_ev l (by omega) h).bind (ev_pos (by omega) (ev_pos (by omega) (ev_pos (by omega) ?_))))
    rw [g3, w64 (n := (i : Int) + 1) (by omega) (by omega)]
    exact ih (i + 1) _ _ g4
theorem spec_l05Widest_ev (l : List S55) (hl : l.length ≤ 1000000000) (h : Int) (h0 : 1 ≤ l.length) (h1 : findM l h < l.length) : Ev (fun k => spec_l05Widest.f k l h) (wideR l h) :=
  ev_pos (by omega) (spec_l05Widest_l0 l hl h h1 _ 0 _ _ rfl)
theorem wideF_calm (m : Int) : ∀ (R : List S55) (a b : Int), ((wideF R (a, b)).1 ≥ -m ∧ (wideF R (a, b)).2 ≤ m) ↔ ((a ≥ -m ∧ b ≤ m) ∧ ∀ c ∈ R, -m ≤ c.f1 ∧ c.f2 ≤ m)
  | [], a, b => by simp [wideF]
  | c :: R, a, b => by
    unfold wideF
    rw [wideF_calm m R]
    simp only [List.mem_cons, forall_eq_or_imp]
    unfold mn mx
    constructor
    · rintro ⟨⟨h1, h2⟩, h3⟩
      refine ⟨⟨?_, ?_⟩, ⟨?_, ?_⟩, h3⟩ <;> revert h1 h2 <;> (try dsimp only) <;> split <;> split <;> intros <;> omega
    · rintro ⟨⟨h1, h2⟩, ⟨h3, h4⟩, h5⟩
      refine ⟨⟨?_, ?_⟩, h5⟩ <;> (try dsimp only) <;> split <;> omega
theorem part_head {l : List S55} {h : Int} (h0 : 0 ≤ findM l h) (h1 : 1 ≤ l.length) : rd_T55 l 0 ∈ partM l h := by
  cases l with
  | nil => simp at h1
  | cons c R =>
    unfold partM
    obtain ⟨n, hn⟩ : ∃ n, (findM (c :: R) h + 1).toNat = n + 1 := ⟨(findM (c :: R) h).toNat, by omega⟩
    rw [hn]
    simp [rd_T55]
theorem spec_IsCalm_ev (l : List S55) (hl : l.length ≤ 1000000000) (h m : Int) : Ev (fun k => spec_IsCalm.f k l h m) (calmM l h m) := by
  have key : ∀ h' : Int, h' = calmH h m → Ev (fun k => spec_IsCalm.j0 k l h' m) (calmM l h m) := by
    intro h' e
    refine Ev.step (fun k => spec_IsCalm.j0.eq_2 ..) ((spec_l05Code_ev' l hl h').bind ?_)
    unfold calmM
    rw [← e]
    by_cases g : codeM l h' = 0
    · obtain ⟨a, b, c⟩ := codeM_zero g
      have := profB_len a
      have hm : 0 ≤ m ∧ m ≤ 50000 := by
        unfold calmH at e
        split at e
        · assumption
        · omega
      have he : h' = h := by rw [e]; unfold calmH; rw [if_pos hm]
      refine ev_pos g ((spec_l05Widest_ev l hl h' (by omega) (findM_lt l h')).bind ?_)
      rw [if_pos g, he, w64 (n := -m) (by omega) (by omega)]
      have w := wideF_calm m (partM l h) (rd_T55 l 0).f1 (rd_T55 l 0).f2
      have ph := part_head (l := l) (h := h) (by rw [← he]; exact c) (by omega)
      have q : calmL (partM l h) m = decide ((wideR l h).1 ≥ -m ∧ (wideR l h).2 ≤ m) := by
        unfold calmL wideR
        refine decide_eq_decide.2 ?_
        rw [w]
        constructor
        · intro z; exact ⟨z _ ph, z⟩
        · intro z; exact z.2
      rw [q]
      by_cases u : (wideR l h).1 ≥ -m
      · exact ev_pos u (ev_ret (by simp [u]))
      · exact ev_neg u (ev_ret (by simp [u]))
    · exact ev_neg g (ev_ret (by rw [if_neg g]))
  refine ev_bind0 (in_eq ..) ?_
  by_cases hm : 0 ≤ m ∧ m ≤ 50000
  · exact ev_pos (by simpa using hm) (key h (by unfold calmH; rw [if_pos hm]))
  · exact ev_neg (by simpa using hm) (key (-1) (by unfold calmH; rw [if_neg hm]))

theorem layersTo_own (l : List S55) (hl : l.length ≤ 1000000000) (h : Int) (A : Option Addr) (c : Nat) (hc : l.length ≤ c) : ∀ w, Kd.C k55 w A l.length l → Calls Try.prog 55 #[.slice A l.length c, .int .i64 h, .bool true] w fun e w' => LTo l (if codeM l h = 0 then partM l h else []) (codeM l h) w e w' := by
  intro w hC
  obtain ⟨K1, e1⟩ := impl_IsProfile_ev l (by omega)
  obtain ⟨K2, e2⟩ := impl_layerOf_ev l (by omega) h
  have e1 := e1 (K1 + K2) (by omega)
  have e2 := e2 (K1 + K2) (by omega)
  have hlt := findM_lt l h
  have hw := within_f h
  by_cases a : profB l = true
  · rw [a] at e1
    by_cases b : 0 ≤ h ∧ h ≤ 1000000
    · rw [decide_eq_true b] at hw
      by_cases d : findM l h < 0
      · have ec : codeM l h = 4 := by unfold codeM; rw [if_pos a, if_pos b, if_pos d]
        rw [ec, if_neg (by decide)]
        exact layersTo3 (K1 + K2) A c l h _ w hC hc e1 hw e2 d
      · have ec : codeM l h = 0 := by unfold codeM; rw [if_pos a, if_pos b, if_neg d]
        rw [ec, if_pos rfl]
        exact layersTo4 (K1 + K2) A c l _ h _ w hC hc e1 hw e2 (by omega) hlt hl rfl
    · have ec : codeM l h = 2 := by unfold codeM; rw [if_pos a, if_neg b]
      rw [decide_eq_false b] at hw
      rw [ec, if_neg (by decide)]
      exact layersTo2 (K1 + K2) A c l h true false w hC hc e1 hw (.inl rfl)
  · have a' : profB l = false := by simpa using a
    have ec : codeM l h = 1 := by unfold codeM; rw [if_neg a]
    rw [a'] at e1
    rw [ec, if_neg (by decide)]
    exact layersTo1 (K1 + K2) A c l h true w hC hc e1
theorem layersTo_off (l : List S55) (hl : l.length ≤ 1000000000) (h : Int) (A : Option Addr) (c : Nat) (hc : l.length ≤ c) : ∀ w, Kd.C k55 w A l.length l → Calls Try.prog 55 #[.slice A l.length c, .int .i64 h, .bool false] w fun e w' => LTo l [] (if profB l = true then 2 else 1) w e w' := by
  intro w hC
  obtain ⟨K1, e1⟩ := impl_IsProfile_ev l (by omega)
  have e1 := e1 K1 (by omega)
  have hw := within_f h
  by_cases a : profB l = true
  · rw [a] at e1
    rw [if_pos a]
    exact layersTo2 K1 A c l h false _ w hC hc e1 hw (.inr rfl)
  · have a' : profB l = false := by simpa using a
    rw [a'] at e1
    rw [if_neg a]
    exact layersTo1 K1 A c l h false w hC hc e1
theorem part_len {l : List S55} {h : Int} (e : codeM l h = 0) : 1 ≤ (partM l h).length ∧ (partM l h).length ≤ l.length ∧ rd_T55 (partM l h) 0 = rd_T55 l 0 := by
  obtain ⟨a, b, c⟩ := codeM_zero e
  have hlt := findM_lt l h
  have hl := profB_len a
  unfold partM
  refine ⟨by rw [List.length_take]; omega, by rw [List.length_take]; omega, ?_⟩
  cases l with
  | nil => simp at hl
  | cons x R =>
    obtain ⟨n, hn⟩ : ∃ n, (findM (x :: R) h + 1).toNat = n + 1 := ⟨(findM (x :: R) h).toNat, by omega⟩
    rw [hn]; rfl

theorem le_gb {wq W0 W : World} {gb : Nat} (h0 : Below wq.heap.size wq W0) (hg : gb = W.heap.size) (h : Below wq.heap.size wq W) : wq.heap.size ≤ gb := by
  rw [hg]; exact below_size h
theorem refl_of {w : World} {A : Option Addr} {n : Nat} {l : List S55} (h : Kd.C k55 w A n l) : Below w.heap.size w w := Below.refl _ _

def calmI : Nat → List S55 → Int → Int → Option Bool
  | 0, _, _, _ => none
  | k + 1, M, a2, x25 => if x25 < (M.length : Int) then (if 0 ≤ x25 then (if ((rd_T55 M x25).f1) < (wrap64 (-a2)) then some false else (if ((rd_T55 M x25).f2) > a2 then some false else calmI k M a2 (wrap64 (x25 + 1)))) else none) else some true
set_option maxHeartbeats 8000000 in
set_option maxRecDepth 100000 in
theorem calm_ok (k : Nat) (A0 : Option Addr) (c0 : Nat) (l M : List S55) (a1 a2 : Int) (r : Bool) (w : World) (hr0 : Kd.C k55 w A0 l.length l) (hin : impl_within.f a2 0 50000 = some true) (hTo : ∀ w, Kd.C k55 w A0 l.length l → Calls Try.prog 55 #[.slice A0 l.length c0, .int .i64 a1, .bool true] w fun e w' => LTo l M 0 w e w') (H0 : calmI k M a2 0 = some r) :
    Calls Try.prog 26 #[.slice A0 l.length c0, .int .i64 a1, .int .i64 a2] w fun e w' => e = .returned (.tuple #[.bool r, .int .i64 0]) ∧ Below w.heap.size w w' := by
  have hu55 := Try.underlying55
  have HR0 := Aside0.mk hr0
  have HB := Aside0.mk (Below.refl w.heap.size w)
  have H' := Aside0.mk H0
  clear hr0 H0
  go_enter Try.func26, Try.ntmps26
  go_wp2_with (first | ((with_reducible refine gate_callee (f := 51) rfl ?_); refine goesL_ (some 16) rfl rfl Try.func51 (by kernel_rfl) rfl #[.int .i64 a2, .int .i64 0, .int .i64 50000] rfl (by (try simp only [List.map_toArray, List.map_cons, List.map_nil]); first | done | rfl | (simp only [List.length_drop, List.length_take]; rfl) | (go_simp; done) | (simp; done) | (simp; rfl)) ?_; (with_reducible refine (impl_within.calls _ _ _ true _ hin).mono ?_); rintro e w2 ⟨rfl, hd⟩; have hb := drawn_below hd; clear hd; refine ⟨_, rfl, ?_⟩; have nb_ := Aside0.mk (below_step (by repeat (first | (with_reducible first | exact HB.out | apply below_alloc | apply pw_below_drewN | apply below_drew1) | exact HB.out)) hb); clear HB; have HB := nb_; clear nb_ hb) | ((with_reducible refine gate_callee (f := 55) rfl ?_); refine goesL_ (some 17) rfl rfl Try.func55 (by kernel_rfl) rfl #[.slice A0 l.length c0, .int .i64 a1, .bool true] rfl (by (try simp only [List.map_toArray, List.map_cons, List.map_nil]); first | done | rfl | (simp only [List.length_drop, List.length_take]; rfl) | (go_simp; done) | (simp; done) | (simp; rfl)) ?_; (with_reducible refine (hTo _ ?side1).mono ?_); (case side1 => repeat (first | exact (Kd.C_below HR0.out (by repeat (first | (with_reducible first | exact HB.out | apply below_alloc | apply pw_below_drewN | apply below_drew1) | exact HB.out))) | (with_reducible refine Kd.C_alloc ?_ _) | (with_reducible refine Kd.C_drewN ?_ _) | (with_reducible refine Kd.C_drew ?_))); rintro e w1 ⟨A1, c1, rfl, hC, hcc, hb⟩; have HK := Aside0.mk hC; have HCC := Aside0.mk hcc; clear hC hcc; refine ⟨_, rfl, ?_⟩; have nb_ := Aside0.mk (below_step (by repeat (first | (with_reducible first | exact HB.out | apply below_alloc | apply pw_below_drewN | apply below_drew1) | exact HB.out)) hb); clear HB; have HB := nb_; clear nb_ hb))
  go_loopg [25] k (fun kq v25 w' => ∃ (x25_1 : Int), v25 = .int .i64 x25_1 ∧ Aside0 (calmI kq M a2 x25_1 = some r) ∧ Aside0 (kq ≤ k) ∧ Aside0 (Kd.C k55 w' A1 M.length M) ∧ Aside0 (Below w.heap.size w w'))
  case atStart => exact ⟨(0), (by first | rfl | (simp; done) | (simp [*]; done)), H', ⟨Nat.le_refl _⟩, ⟨by repeat (first | exact HK.out | (with_reducible refine Kd.C_alloc ?_ _) | (with_reducible refine Kd.C_drewN ?_ _) | (with_reducible refine Kd.C_drew ?_))⟩, ⟨by repeat (first | (with_reducible first | exact HB.out | apply below_alloc | apply pw_below_drewN | apply below_drew1) | exact HB.out)⟩⟩
  case round =>
    clear H'
    try clear HK
    try clear HB
    obtain ⟨x25_1, rfl, HA, HK1, HKR, HB⟩ := hrel
    have HBQ := Aside0.mk (refl_of HKR.out)
    cases gk with
    | zero => exact absurd HA.out (by simp [calmI])
    | succ k1 =>
      have H := HA.out
      clear HA
      simp only [calmI] at H
      by_cases c10 : x25_1 < (M.length : Int)
      · rw [if_pos c10] at H
        have c10b0 : decide (x25_1 < (M.length : Int)) = true := decide_eq_true c10
        clear c10
        by_cases c11 : 0 ≤ x25_1
        · rw [if_pos c11] at H
          have c11b0 : decide (0 ≤ x25_1) = true := decide_eq_true c11
          clear c11
          by_cases c13 : ((rd_T55 M x25_1).f1) < (wrap64 (-a2))
          · rw [if_pos c13] at H
            have c13b0 : decide (((rd_T55 M x25_1).f1) < (wrap64 (-a2))) = true := decide_eq_true c13
            clear c13
            obtain rfl := Option.some.inj H
            have p177 : 0 ≤ (x25_1 : Int) := of_decide_eq_true (by first | (with_reducible assumption) | assumption)
            have q177 : x25_1 < (M.length : Int) := of_decide_eq_true (by first | (with_reducible assumption) | assumption)
            obtain ⟨ad177, e177, hx177_0, hx177_1, hx177_2⟩ := at_T55 HKR.out x25_1 p177 q177
            cases e177
            replace p177 := eq_true p177
            replace q177 := eq_true q177
            go_wp2_with (first | ((with_reducible refine gate_dst (N := 11) rfl ?_); refine box_event ?hg (N := 11) ?hd (cs := #[.int .i64 0, .int .i64 0, .int .i64 0]) (t := 55) ?hr ?_; (case hd => rfl); (case hg => rfl); (case hr => first | (go_simp; done) | (go_simp; rfl)); intro gb178 hg w14 hbox hb; have GE := Aside0.mk (le_gb HB.out hg (by repeat (first | (with_reducible first | exact HB.out | apply below_alloc | apply pw_below_drewN | apply below_drew1) | exact HB.out))); have GQ := Aside0.mk (le_gb HBQ.out hg (by repeat (first | (with_reducible first | exact HBQ.out | apply below_alloc | apply pw_below_drewN | apply below_drew1) | exact HBQ.out))); have n0_ := Aside0.mk (below_step (by repeat (first | (with_reducible first | exact HB.out | apply below_alloc | apply pw_below_drewN | apply below_drew1) | exact HB.out)) hb); have n1_ := Aside0.mk (below_step (by repeat (first | (with_reducible first | exact HBQ.out | apply below_alloc | apply pw_below_drewN | apply below_drew1) | exact HBQ.out)) hb); clear HB HBQ; have HB := n0_; have HBQ := n1_; clear n0_ n1_ hb; have BK178 := Aside0.mk hbox; clear hbox hg; have hcz15_0 : w14.cell? ⟨gb178, 0, none⟩ = some (.int .i64 0) := (blk_cell BK178.out 0).trans rfl; have hcz15_1 : w14.cell? ⟨gb178, 1, none⟩ = some (.int .i64 0) := (blk_cell BK178.out 1).trans rfl; have hcz15_2 : w14.cell? ⟨gb178, 2, none⟩ = some (.int .i64 0) := (blk_cell BK178.out 2).trans rfl; have hfz15_0 := blk_frozen BK178.out 0; have hfz15_1 := blk_frozen BK178.out 1; have hfz15_2 := blk_frozen BK178.out 2))
            repeat (go_quiet (first | ((with_reducible refine gate_dst (N := 11) rfl ?_); refine box_event ?hg (N := 11) ?hd (cs := #[.int .i64 0, .int .i64 0, .int .i64 0]) (t := 55) ?hr ?_; (case hd => rfl); (case hg => rfl); (case hr => first | (go_simp; done) | (go_simp; rfl)); intro gb178 hg w14 hbox hb; have GE := Aside0.mk (le_gb HB.out hg (by repeat (first | (with_reducible first | exact HB.out | apply below_alloc | apply pw_below_drewN | apply below_drew1) | exact HB.out))); have GQ := Aside0.mk (le_gb HBQ.out hg (by repeat (first | (with_reducible first | exact HBQ.out | apply below_alloc | apply pw_below_drewN | apply below_drew1) | exact HBQ.out))); have n0_ := Aside0.mk (below_step (by repeat (first | (with_reducible first | exact HB.out | apply below_alloc | apply pw_below_drewN | apply below_drew1) | exact HB.out)) hb); have n1_ := Aside0.mk (below_step (by repeat (first | (with_reducible first | exact HBQ.out | apply below_alloc | apply pw_below_drewN | apply below_drew1) | exact HBQ.out)) hb); clear HB HBQ; have HB := n0_; have HBQ := n1_; clear n0_ n1_ hb; have BK178 := Aside0.mk hbox; clear hbox hg; have hcz15_0 : w14.cell? ⟨gb178, 0, none⟩ = some (.int .i64 0) := (blk_cell BK178.out 0).trans rfl; have hcz15_1 : w14.cell? ⟨gb178, 1, none⟩ = some (.int .i64 0) := (blk_cell BK178.out 1).trans rfl; have hcz15_2 : w14.cell? ⟨gb178, 2, none⟩ = some (.int .i64 0) := (blk_cell BK178.out 2).trans rfl; have hfz15_0 := blk_frozen BK178.out 0; have hfz15_1 := blk_frozen BK178.out 1; have hfz15_2 := blk_frozen BK178.out 2)); try go_wp2_with (first | ((with_reducible refine gate_dst (N := 11) rfl ?_); refine box_event ?hg (N := 11) ?hd (cs := #[.int .i64 0, .int .i64 0, .int .i64 0]) (t := 55) ?hr ?_; (case hd => rfl); (case hg => rfl); (case hr => first | (go_simp; done) | (go_simp; rfl)); intro gb178 hg w14 hbox hb; have GE := Aside0.mk (le_gb HB.out hg (by repeat (first | (with_reducible first | exact HB.out | apply below_alloc | apply pw_below_drewN | apply below_drew1) | exact HB.out))); have GQ := Aside0.mk (le_gb HBQ.out hg (by repeat (first | (with_reducible first | exact HBQ.out | apply below_alloc | apply pw_below_drewN | apply below_drew1) | exact HBQ.out))); have n0_ := Aside0.mk (below_step (by repeat (first | (with_reducible first | exact HB.out | apply below_alloc | apply pw_below_drewN | apply below_drew1) | exact HB.out)) hb); have n1_ := Aside0.mk (below_step (by repeat (first | (with_reducible first | exact HBQ.out | apply below_alloc | apply pw_below_drewN | apply below_drew1) | exact HBQ.out)) hb); clear HB HBQ; have HB := n0_; have HBQ := n1_; clear n0_ n1_ hb; have BK178 := Aside0.mk hbox; clear hbox hg; have hcz15_0 : w14.cell? ⟨gb178, 0, none⟩ = some (.int .i64 0) := (blk_cell BK178.out 0).trans rfl; have hcz15_1 : w14.cell? ⟨gb178, 1, none⟩ = some (.int .i64 0) := (blk_cell BK178.out 1).trans rfl; have hcz15_2 : w14.cell? ⟨gb178, 2, none⟩ = some (.int .i64 0) := (blk_cell BK178.out 2).trans rfl; have hfz15_0 := blk_frozen BK178.out 0; have hfz15_1 := blk_frozen BK178.out 1; have hfz15_2 := blk_frozen BK178.out 2)))
            go_ret2
            exact ⟨by first | rfl | (simp [errW_none, errW_some] <;> rfl) | (simp [*, errW_none, errW_some] <;> rfl), by repeat (first | (with_reducible first | exact HB.out | apply below_alloc | apply pw_below_drewN | apply below_drew1 | refine below_set ?_ GE.out) | exact HB.out)⟩
          · rw [if_neg c13] at H
            have c13b0 : decide (((rd_T55 M x25_1).f1) < (wrap64 (-a2))) = false := decide_eq_false c13
            clear c13
            by_cases c16 : ((rd_T55 M x25_1).f2) > a2
            · rw [if_pos c16] at H
              have c16b0 : decide (a2 < ((rd_T55 M x25_1).f2)) = true := decide_eq_true c16
              clear c16
              obtain rfl := Option.some.inj H
              have p177 : 0 ≤ (x25_1 : Int) := of_decide_eq_true (by first | (with_reducible assumption) | assumption)
              have q177 : x25_1 < (M.length : Int) := of_decide_eq_true (by first | (with_reducible assumption) | assumption)
              obtain ⟨ad177, e177, hx177_0, hx177_1, hx177_2⟩ := at_T55 HKR.out x25_1 p177 q177
              cases e177
              replace p177 := eq_true p177
              replace q177 := eq_true q177
              go_wp2_with (first | ((with_reducible refine gate_dst (N := 11) rfl ?_); refine box_event ?hg (N := 11) ?hd (cs := #[.int .i64 0, .int .i64 0, .int .i64 0]) (t := 55) ?hr ?_; (case hd => rfl); (case hg => rfl); (case hr => first | (go_simp; done) | (go_simp; rfl)); intro gb178 hg w14 hbox hb; have GE := Aside0.mk (le_gb HB.out hg (by repeat (first | (with_reducible first | exact HB.out | apply below_alloc | apply pw_below_drewN | apply below_drew1) | exact HB.out))); have GQ := Aside0.mk (le_gb HBQ.out hg (by repeat (first | (with_reducible first | exact HBQ.out | apply below_alloc | apply pw_below_drewN | apply below_drew1) | exact HBQ.out))); have n0_ := Aside0.mk (below_step (by repeat (first | (with_reducible first | exact HB.out | apply below_alloc | apply pw_below_drewN | apply below_drew1) | exact HB.out)) hb); have n1_ := Aside0.mk (below_step (by repeat (first | (with_reducible first | exact HBQ.out | apply below_alloc | apply pw_below_drewN | apply below_drew1) | exact HBQ.out)) hb); clear HB HBQ; have HB := n0_; have HBQ := n1_; clear n0_ n1_ hb; have BK178 := Aside0.mk hbox; clear hbox hg; have hcz15_0 : w14.cell? ⟨gb178, 0, none⟩ = some (.int .i64 0) := (blk_cell BK178.out 0).trans rfl; have hcz15_1 : w14.cell? ⟨gb178, 1, none⟩ = some (.int .i64 0) := (blk_cell BK178.out 1).trans rfl; have hcz15_2 : w14.cell? ⟨gb178, 2, none⟩ = some (.int .i64 0) := (blk_cell BK178.out 2).trans rfl; have hfz15_0 := blk_frozen BK178.out 0; have hfz15_1 := blk_frozen BK178.out 1; have hfz15_2 := blk_frozen BK178.out 2))
              repeat (go_quiet (first | ((with_reducible refine gate_dst (N := 11) rfl ?_); refine box_event ?hg (N := 11) ?hd (cs := #[.int .i64 0, .int .i64 0, .int .i64 0]) (t := 55) ?hr ?_; (case hd => rfl); (case hg => rfl); (case hr => first | (go_simp; done) | (go_simp; rfl)); intro gb178 hg w14 hbox hb; have GE := Aside0.mk (le_gb HB.out hg (by repeat (first | (with_reducible first | exact HB.out | apply below_alloc | apply pw_below_drewN | apply below_drew1) | exact HB.out))); have GQ := Aside0.mk (le_gb HBQ.out hg (by repeat (first | (with_reducible first | exact HBQ.out | apply below_alloc | apply pw_below_drewN | apply below_drew1) | exact HBQ.out))); have n0_ := Aside0.mk (below_step (by repeat (first | (with_reducible first | exact HB.out | apply below_alloc | apply pw_below_drewN | apply below_drew1) | exact HB.out)) hb); have n1_ := Aside0.mk (below_step (by repeat (first | (with_reducible first | exact HBQ.out | apply below_alloc | apply pw_below_drewN | apply below_drew1) | exact HBQ.out)) hb); clear HB HBQ; have HB := n0_; have HBQ := n1_; clear n0_ n1_ hb; have BK178 := Aside0.mk hbox; clear hbox hg; have hcz15_0 : w14.cell? ⟨gb178, 0, none⟩ = some (.int .i64 0) := (blk_cell BK178.out 0).trans rfl; have hcz15_1 : w14.cell? ⟨gb178, 1, none⟩ = some (.int .i64 0) := (blk_cell BK178.out 1).trans rfl; have hcz15_2 : w14.cell? ⟨gb178, 2, none⟩ = some (.int .i64 0) := (blk_cell BK178.out 2).trans rfl; have hfz15_0 := blk_frozen BK178.out 0; have hfz15_1 := blk_frozen BK178.out 1; have hfz15_2 := blk_frozen BK178.out 2)); try go_wp2_with (first | ((with_reducible refine gate_dst (N := 11) rfl ?_); refine box_event ?hg (N := 11) ?hd (cs := #[.int .i64 0, .int .i64 0, .int .i64 0]) (t := 55) ?hr ?_; (case hd => rfl); (case hg => rfl); (case hr => first | (go_simp; done) | (go_simp; rfl)); intro gb178 hg w14 hbox hb; have GE := Aside0.mk (le_gb HB.out hg (by repeat (first | (with_reducible first | exact HB.out | apply below_alloc | apply pw_below_drewN | apply below_drew1) | exact HB.out))); have GQ := Aside0.mk (le_gb HBQ.out hg (by repeat (first | (with_reducible first | exact HBQ.out | apply below_alloc | apply pw_below_drewN | apply below_drew1) | exact HBQ.out))); have n0_ := Aside0.mk (below_step (by repeat (first | (with_reducible first | exact HB.out | apply below_alloc | apply pw_below_drewN | apply below_drew1) | exact HB.out)) hb); have n1_ := Aside0.mk (below_step (by repeat (first | (with_reducible first | exact HBQ.out | apply below_alloc | apply pw_below_drewN | apply below_drew1) | exact HBQ.out)) hb); clear HB HBQ; have HB := n0_; have HBQ := n1_; clear n0_ n1_ hb; have BK178 := Aside0.mk hbox; clear hbox hg; have hcz15_0 : w14.cell? ⟨gb178, 0, none⟩ = some (.int .i64 0) := (blk_cell BK178.out 0).trans rfl; have hcz15_1 : w14.cell? ⟨gb178, 1, none⟩ = some (.int .i64 0) := (blk_cell BK178.out 1).trans rfl; have hcz15_2 : w14.cell? ⟨gb178, 2, none⟩ = some (.int .i64 0) := (blk_cell BK178.out 2).trans rfl; have hfz15_0 := blk_frozen BK178.out 0; have hfz15_1 := blk_frozen BK178.out 1; have hfz15_2 := blk_frozen BK178.out 2)))
              go_ret2
              exact ⟨by first | rfl | (simp [errW_none, errW_some] <;> rfl) | (simp [*, errW_none, errW_some] <;> rfl), by repeat (first | (with_reducible first | exact HB.out | apply below_alloc | apply pw_below_drewN | apply below_drew1 | refine below_set ?_ GE.out) | exact HB.out)⟩
            · rw [if_neg c16] at H
              have c16b0 : decide (a2 < ((rd_T55 M x25_1).f2)) = false := decide_eq_false c16
              clear c16
              have H' := Aside0.mk H
              clear H
              have p177 : 0 ≤ (x25_1 : Int) := of_decide_eq_true (by first | (with_reducible assumption) | assumption)
              have q177 : x25_1 < (M.length : Int) := of_decide_eq_true (by first | (with_reducible assumption) | assumption)
              obtain ⟨ad177, e177, hx177_0, hx177_1, hx177_2⟩ := at_T55 HKR.out x25_1 p177 q177
              cases e177
              replace p177 := eq_true p177
              replace q177 := eq_true q177
              go_wp2_with (first | ((with_reducible refine gate_dst (N := 11) rfl ?_); refine box_event ?hg (N := 11) ?hd (cs := #[.int .i64 0, .int .i64 0, .int .i64 0]) (t := 55) ?hr ?_; (case hd => rfl); (case hg => rfl); (case hr => first | (go_simp; done) | (go_simp; rfl)); intro gb178 hg w14 hbox hb; have GE := Aside0.mk (le_gb HB.out hg (by repeat (first | (with_reducible first | exact HB.out | apply below_alloc | apply pw_below_drewN | apply below_drew1) | exact HB.out))); have GQ := Aside0.mk (le_gb HBQ.out hg (by repeat (first | (with_reducible first | exact HBQ.out | apply below_alloc | apply pw_below_drewN | apply below_drew1) | exact HBQ.out))); have n0_ := Aside0.mk (below_step (by repeat (first | (with_reducible first | exact HB.out | apply below_alloc | apply pw_below_drewN | apply below_drew1) | exact HB.out)) hb); have n1_ := Aside0.mk (below_step (by repeat (first | (with_reducible first | exact HBQ.out | apply below_alloc | apply pw_below_drewN | apply below_drew1) | exact HBQ.out)) hb); clear HB HBQ; have HB := n0_; have HBQ := n1_; clear n0_ n1_ hb; have BK178 := Aside0.mk hbox; clear hbox hg; have hcz15_0 : w14.cell? ⟨gb178, 0, none⟩ = some (.int .i64 0) := (blk_cell BK178.out 0).trans rfl; have hcz15_1 : w14.cell? ⟨gb178, 1, none⟩ = some (.int .i64 0) := (blk_cell BK178.out 1).trans rfl; have hcz15_2 : w14.cell? ⟨gb178, 2, none⟩ = some (.int .i64 0) := (blk_cell BK178.out 2).trans rfl; have hfz15_0 := blk_frozen BK178.out 0; have hfz15_1 := blk_frozen BK178.out 1; have hfz15_2 := blk_frozen BK178.out 2))
              repeat (go_quiet (first | ((with_reducible refine gate_dst (N := 11) rfl ?_); refine box_event ?hg (N := 11) ?hd (cs := #[.int .i64 0, .int .i64 0, .int .i64 0]) (t := 55) ?hr ?_; (case hd => rfl); (case hg => rfl); (case hr => first | (go_simp; done) | (go_simp; rfl)); intro gb178 hg w14 hbox hb; have GE := Aside0.mk (le_gb HB.out hg (by repeat (first | (with_reducible first | exact HB.out | apply below_alloc | apply pw_below_drewN | apply below_drew1) | exact HB.out))); have GQ := Aside0.mk (le_gb HBQ.out hg (by repeat (first | (with_reducible first | exact HBQ.out | apply below_alloc | apply pw_below_drewN | apply below_drew1) | exact HBQ.out))); have n0_ := Aside0.mk (below_step (by repeat (first | (with_reducible first | exact HB.out | apply below_alloc | apply pw_below_drewN | apply below_drew1) | exact HB.out)) hb); have n1_ := Aside0.mk (below_step (by repeat (first | (with_reducible first | exact HBQ.out | apply below_alloc | apply pw_below_drewN | apply below_drew1) | exact HBQ.out)) hb); clear HB HBQ; have HB := n0_; have HBQ := n1_; clear n0_ n1_ hb; have BK178 := Aside0.mk hbox; clear hbox hg; have hcz15_0 : w14.cell? ⟨gb178, 0, none⟩ = some (.int .i64 0) := (blk_cell BK178.out 0).trans rfl; have hcz15_1 : w14.cell? ⟨gb178, 1, none⟩ = some (.int .i64 0) := (blk_cell BK178.out 1).trans rfl; have hcz15_2 : w14.cell? ⟨gb178, 2, none⟩ = some (.int .i64 0) := (blk_cell BK178.out 2).trans rfl; have hfz15_0 := blk_frozen BK178.out 0; have hfz15_1 := blk_frozen BK178.out 1; have hfz15_2 := blk_frozen BK178.out 2)); try go_wp2_with (first | ((with_reducible refine gate_dst (N := 11) rfl ?_); refine box_event ?hg (N := 11) ?hd (cs := #[.int .i64 0, .int .i64 0, .int .i64 0]) (t := 55) ?hr ?_; (case hd => rfl); (case hg => rfl); (case hr => first | (go_simp; done) | (go_simp; rfl)); intro gb178 hg w14 hbox hb; have GE := Aside0.mk (le_gb HB.out hg (by repeat (first | (with_reducible first | exact HB.out | apply below_alloc | apply pw_below_drewN | apply below_drew1) | exact HB.out))); have GQ := Aside0.mk (le_gb HBQ.out hg (by repeat (first | (with_reducible first | exact HBQ.out | apply below_alloc | apply pw_below_drewN | apply below_drew1) | exact HBQ.out))); have n0_ := Aside0.mk (below_step (by repeat (first | (with_reducible first | exact HB.out | apply below_alloc | apply pw_below_drewN | apply below_drew1) | exact HB.out)) hb); have n1_ := Aside0.mk (below_step (by repeat (first | (with_reducible first | exact HBQ.out | apply below_alloc | apply pw_below_drewN | apply below_drew1) | exact HBQ.out)) hb); clear HB HBQ; have HB := n0_; have HBQ := n1_; clear n0_ n1_ hb; have BK178 := Aside0.mk hbox; clear hbox hg; have hcz15_0 : w14.cell? ⟨gb178, 0, none⟩ = some (.int .i64 0) := (blk_cell BK178.out 0).trans rfl; have hcz15_1 : w14.cell? ⟨gb178, 1, none⟩ = some (.int .i64 0) := (blk_cell BK178.out 1).trans rfl; have hcz15_2 : w14.cell? ⟨gb178, 2, none⟩ = some (.int .i64 0) := (blk_cell BK178.out 2).trans rfl; have hfz15_0 := blk_frozen BK178.out 0; have hfz15_1 := blk_frozen BK178.out 1; have hfz15_2 := blk_frozen BK178.out 2)))
              go_roundg k1
              case measure => have := HK1.out; omega
              case rel => exact ⟨(wrap64 (x25_1 + 1)), (by first | rfl | (simp; done) | (simp [*]; done)), H', ⟨by have := HK1.out; omega⟩, ⟨Kd.C_below HKR.out (by repeat (first | (with_reducible first | exact HBQ.out | apply below_alloc | apply pw_below_drewN | apply below_drew1 | refine below_set ?_ GQ.out) | exact HBQ.out))⟩, ⟨by repeat (first | (with_reducible first | exact HB.out | apply below_alloc | apply pw_below_drewN | apply below_drew1 | refine below_set ?_ GE.out) | exact HB.out)⟩⟩
        · rw [if_neg c11] at H
          exact absurd H (by simp)
      · rw [if_neg c10] at H
        have c10b0 : decide (x25_1 < (M.length : Int)) = false := decide_eq_false c10
        clear c10
        obtain rfl := Option.some.inj H
        go_wp2
        go_ret2
        exact ⟨by first | rfl | (simp [errW_none, errW_some] <;> rfl) | (simp [*, errW_none, errW_some] <;> rfl), by repeat (first | (with_reducible first | exact HB.out | apply below_alloc | apply pw_below_drewN | apply below_drew1) | exact HB.out)⟩
set_option maxHeartbeats 8000000 in
set_option maxRecDepth 100000 in
theorem calm_no (A0 : Option Addr) (c0 : Nat) (l : List S55) (a1 a2 er : Int) (b : Bool) (w : World) (hr0 : Kd.C k55 w A0 l.length l) (hin : impl_within.f a2 0 50000 = some b) (hTo : ∀ w, Kd.C k55 w A0 l.length l → Calls Try.prog 55 #[.slice A0 l.length c0, .int .i64 a1, .bool b] w fun e w' => LTo l [] er w e w') (h1 : er ≠ 0) :
    Calls Try.prog 26 #[.slice A0 l.length c0, .int .i64 a1, .int .i64 a2] w fun e w' => e = .returned (.tuple #[.bool false, .int .i64 er]) ∧ Below w.heap.size w w' := by
  have HR0 := Aside0.mk hr0
  have HB := Aside0.mk (Below.refl w.heap.size w)
  have c4b0 : (er == 0) = false := beq_eq_false_iff_ne.mpr h1
  have c4b1 : (er != 0) = true := bne_iff_ne.mpr h1
  clear hr0 h1
  go_enter Try.func26, Try.ntmps26
  go_wp2_with (first | ((with_reducible refine gate_callee (f := 51) rfl ?_); refine goesL_ (some 16) rfl rfl Try.func51 (by kernel_rfl) rfl #[.int .i64 a2, .int .i64 0, .int .i64 50000] rfl (by (try simp only [List.map_toArray, List.map_cons, List.map_nil]); first | done | rfl | (simp only [List.length_drop, List.length_take]; rfl) | (go_simp; done) | (simp; done) | (simp; rfl)) ?_; (with_reducible refine (impl_within.calls _ _ _ b _ hin).mono ?_); rintro e w2 ⟨rfl, hd⟩; have hb := drawn_below hd; clear hd; refine ⟨_, rfl, ?_⟩; have nb_ := Aside0.mk (below_step (by repeat (first | (with_reducible first | exact HB.out | apply below_alloc | apply pw_below_drewN | apply below_drew1) | exact HB.out)) hb); clear HB; have HB := nb_; clear nb_ hb) | ((with_reducible refine gate_callee (f := 55) rfl ?_); refine goesL_ (some 17) rfl rfl Try.func55 (by kernel_rfl) rfl #[.slice A0 l.length c0, .int .i64 a1, .bool b] rfl (by (try simp only [List.map_toArray, List.map_cons, List.map_nil]); first | done | rfl | (simp only [List.length_drop, List.length_take]; rfl) | (go_simp; done) | (simp; done) | (simp; rfl)) ?_; (with_reducible refine (hTo _ ?side1).mono ?_); (case side1 => repeat (first | exact (Kd.C_below HR0.out (by repeat (first | (with_reducible first | exact HB.out | apply below_alloc | apply pw_below_drewN | apply below_drew1) | exact HB.out))) | (with_reducible refine Kd.C_alloc ?_ _) | (with_reducible refine Kd.C_drewN ?_ _) | (with_reducible refine Kd.C_drew ?_))); rintro e w1 ⟨A1, c1, rfl, hC, hcc, hb⟩; clear hC hcc; refine ⟨_, rfl, ?_⟩; have nb_ := Aside0.mk (below_step (by repeat (first | (with_reducible first | exact HB.out | apply below_alloc | apply pw_below_drewN | apply below_drew1) | exact HB.out)) hb); clear HB; have HB := nb_; clear nb_ hb))
  go_ret2
  exact ⟨by first | rfl | (simp [errW_none, errW_some] <;> rfl) | (simp [*, errW_none, errW_some] <;> rfl), by repeat (first | (with_reducible first | exact HB.out | apply below_alloc | apply pw_below_drewN | apply below_drew1) | exact HB.out)⟩

theorem calmI_ev (M : List S55) (hl : M.length ≤ 1000000000) (m : Int) (h0 : 0 ≤ m) (h1 : m ≤ 50000) : ∀ (R : List S55) (i : Nat), M.drop i = R → Ev (fun k => calmI k M m i) (calmL R m) := by
  intro R
  induction R with
  | nil =>
    intro i e
    have := drop_nil e
    exact Ev.step (fun k => calmI.eq_2 ..) (ev_neg (by omega) (ev_ret (by simp [calmL])))
  | cons c R ih =>
    intro i e
    obtain ⟨g1, g2, g3⟩ := rdOf_drop (d := z55) e
    have g2' : rd_T55 M (i : Int) = c := g2
    refine Ev.step (fun k => calmI.eq_2 ..) (ev_pos (by omega) (ev_pos (by omega) ?_))
    rw [g2', w64 (n := (i : Int) + 1) (by omega) (by omega), w64 (n := -m) (by omega) (by omega)]
    by_cases a : c.f1 < -m
    · refine ev_pos a (ev_ret ?_)
      unfold calmL; symm; refine decide_eq_false (fun z => ?_)
      have := (z c (by simp)).1; omega
    · refine ev_neg a ?_
      by_cases b : c.f2 > m
      · refine ev_pos b (ev_ret ?_)
        unfold calmL; symm; refine decide_eq_false (fun z => ?_)
        have := (z c (by simp)).2; omega
      · refine ev_neg b ?_
        have e2 : calmL (c :: R) m = calmL R m := by
          unfold calmL
          refine decide_eq_decide.2 ?_
          simp only [List.mem_cons, forall_eq_or_imp]
          exact ⟨fun z => z.2, fun z => ⟨by omega, z⟩⟩
        rw [e2]; exact ih (i + 1) g3
theorem impl_IsCalm_own (l : List S55) (hl : l.length ≤ 1000000000) (h m : Int) : ∀ (A : Option Addr) (c : Nat) (w : World), Kd.C k55 w A l.length l → l.length ≤ c → Calls Try.prog 26 #[.slice A l.length c, .int .i64 h, .int .i64 m] w fun e w' => e = .returned (.tuple #[.bool (calmM l h m).1, .int .i64 (calmM l h m).2]) ∧ Below w.heap.size w w' := by
  intro A c w hC hc
  have hw : impl_within.f m 0 50000 = some (decide (0 ≤ m ∧ m ≤ 50000)) := within_eq ..
  unfold calmM calmH
  by_cases b : 0 ≤ m ∧ m ≤ 50000
  · rw [decide_eq_true b] at hw
    have hTo := layersTo_own l hl h A c hc
    simp only [b, and_self, if_true]
    by_cases e : codeM l h = 0
    · simp only [e, if_true] at hTo ⊢
      obtain ⟨p1, p2, p3⟩ := part_len e
      obtain ⟨K, hK⟩ := calmI_ev (partM l h) (by omega) m b.1 b.2 (partM l h) 0 rfl
      exact calm_ok K A c l (partM l h) h m _ w hC hw hTo (hK K (Nat.le_refl _))
    · simp only [e, if_false] at hTo ⊢
      exact calm_no A c l h m _ true w hC hw hTo e
  · rw [decide_eq_false b] at hw
    have hTo := layersTo_off l hl h A c hc
    have ec : codeM l (-1) = if profB l = true then 2 else 1 := by
      unfold codeM; rw [if_neg (show ¬ ((0 : Int) ≤ -1 ∧ (-1 : Int) ≤ 1000000) by omega)]
    rw [if_neg b, ec, if_neg (by split <;> decide)]
    exact calm_no A c l h m _ false w hC hw hTo (by split <;> decide)

/-! ### slices laid out with room behind -/
theorem room_some (n : Nat) (h : n ≤ 1000000000) : ∃ t, laws_roomBehind.f (n : Int) = some t ∧ 0 ≤ t ∧ t ≤ 1000000000 := by
  unfold laws_roomBehind.f
  split
  · exact ⟨_, rfl, by omega, by omega⟩
  · split
    · exact ⟨_, rfl, by omega, by omega⟩
    · exact ⟨_, rfl, by omega, by omega⟩
theorem take_set_ge {α : Type} (x : List α) (n j : Nat) (v : α) (h : n ≤ j) : (x.set j v).take n = x.take n := by
  rw [List.take_set, List.set_eq_of_length_le (by rw [List.length_take]; omega)]
theorem take_set_next {α : Type} (x l : List α) (i : Nat) (c : α) (hi : i < x.length) (hc : l[i]? = some c) (h : x.take i = l.take i) : (x.set i c).take (i + 1) = l.take (i + 1) := by
  obtain ⟨y, hy⟩ : ∃ y, x[i]? = some y := ⟨x[i], List.getElem?_eq_getElem hi⟩
  have hl : (x.set i c)[i]? = some c := by rw [List.getElem?_set_self hi]
  rw [List.take_add_one, List.take_add_one, hl, hc, take_set_ge _ _ _ _ (Nat.le_refl i), h]

/-! ### layers -/
def cvL (x : S64) : S55 := ⟨x.f0, x.f1, x.f2⟩
theorem rd64 {l : List S64} {i : Nat} {c : S64} (h : rdOf z64 l (i : Int) = c) : (⟨(rd_T64 l i).f0, (rd_T64 l i).f1, (rd_T64 l i).f2⟩ : S55) = cvL c := by rw [← h]; rfl
theorem eqLayerS_l0 (l : List S55) (hl : l.length ≤ 4611686018427387904) : ∀ (R : List S55) (i : Nat), l.drop i = R → Ev (fun k => laws_eqLayerS.l0 k l l i) true := by
  intro R
  induction R with
  | nil =>
    intro i h
    have := drop_nil h
    exact Ev.step (fun k => laws_eqLayerS.l0.eq_2 ..) (ev_neg (by omega) (Ev.now _))
  | cons c R ih =>
    intro i h
    obtain ⟨h1, h2, h3⟩ := rdOf_drop (d := z55) h
    refine Ev.step (fun k => laws_eqLayerS.l0.eq_2 ..) (ev_pos (by omega) (ev_pos (by omega) (ev_pos (by omega) (ev_bind0 (b := true) (by unfold laws_eqLayer.f; simp) (ev_pos rfl ?_)))))
    rw [w64 (n := (i : Int) + 1) (by omega) (by omega)]
    exact ih (i + 1) h3
theorem eqLayerS_ev (l : List S55) (hl : l.length ≤ 4611686018427387904) : Ev (fun k => laws_eqLayerS.f k l l) true := by
  have h := eqLayerS_l0 l hl l 0 rfl
  exact ev_pos rfl h
theorem toLayerSF_l1 (l : List S64) (hl : l.length ≤ 1000000000) : ∀ (d : Nat) (x : List S55) (j : Nat), x.length - j = d → x.length ≤ 3000000000 → l.length ≤ j → j ≤ x.length → x.take l.length = l.map cvL →
    ∃ L, Ev (fun k => laws_toLayerSF.l1 k l x (j : Int)) L ∧ L.length = x.length ∧ L.take l.length = l.map cvL := by
  intro d
  induction d with
  | zero =>
    intro x j hd hx hj hjx ht
    exact ⟨x, Ev.step (fun k => laws_toLayerSF.l1.eq_2 ..) (ev_neg (by omega) (ev_pos (by omega) (ev_pos (by omega) (Ev.now _)))), rfl, ht⟩
  | succ d ih =>
    intro x j hd hx hj hjx ht
    obtain ⟨L, e, h1, h2⟩ := ih (x.set j (⟨(-7000000000000000101), (-7000000000000000101), (-7000000000000000101)⟩ : S55)) (j + 1) (by rw [List.length_set]; omega) (by rw [List.length_set]; omega) (by omega) (by rw [List.length_set]; omega) (by rw [take_set_ge _ _ _ _ hj, ht])
    refine ⟨L, Ev.step (fun k => laws_toLayerSF.l1.eq_2 ..) (ev_pos (by omega) (ev_bind0 rfl (ev_pos (by omega) ?_))), by rw [h1, List.length_set], h2⟩
    dsimp only
    rw [Int.toNat_natCast, w64 (n := (j : Int) + 1) (by omega) (by omega)]
    exact e
theorem toLayerSF_l0 (l : List S64) (hl : l.length ≤ 1000000000) : ∀ (R : List S64) (i : Nat) (x : List S55), l.drop i = R → i ≤ l.length → l.length ≤ x.length → x.length ≤ 3000000000 → x.take i = (l.map cvL).take i →
    ∃ L, Ev (fun k => laws_toLayerSF.l0 k l x (i : Int)) L ∧ L.length = x.length ∧ L.take l.length = l.map cvL := by
  intro R
  induction R with
  | nil =>
    intro i x h hi hx hx' ht
    have h1 := drop_nil h
    obtain ⟨L, e, h2⟩ := toLayerSF_l1 l hl (x.length - l.length) x l.length rfl hx' (Nat.le_refl _) hx (by rw [show l.length = i by omega, ht, List.take_of_length_le (by rw [List.length_map]; exact h1)])
    exact ⟨L, Ev.step (fun k => laws_toLayerSF.l0.eq_2 ..) (ev_neg (by omega) e), h2⟩
  | cons c R ih =>
    intro i x h hi hx hx' ht
    obtain ⟨h1, h2, h3⟩ := rdOf_drop (d := z64) h
    obtain ⟨_, hc, _⟩ := drop_cons h
    obtain ⟨L, e, h4, h5⟩ := ih (i + 1) (x.set i (cvL c)) h3 (by omega) (by rw [List.length_set]; omega) (by rw [List.length_set]; omega) (take_set_next x (l.map cvL) i (cvL c) (by omega) (by rw [List.getElem?_map, hc]; rfl) ht)
    refine ⟨L, Ev.step (fun k => laws_toLayerSF.l0.eq_2 ..) (ev_pos (by omega) (ev_pos (by omega) (ev_bind0 rfl (ev_pos (by omega) ?_)))), by rw [h4, List.length_set], h5⟩
    dsimp only
    rw [rd64 h2, Int.toNat_natCast, w64 (n := (i : Int) + 1) (by omega) (by omega)]
    exact e
theorem toLayerSF_ev (l : List S64) (hl : l.length ≤ 1000000000) {t : Int} (ht : laws_roomBehind.f (l.length : Int) = some t) (t0 : 0 ≤ t) (t1 : t ≤ 1000000000) : ∃ L, Ev (fun k => laws_toLayerSF.f k l false) L ∧ (L.length : Int) = l.length + t ∧ L.take l.length = l.map cvL := by
  obtain ⟨L, e, h1, h2⟩ := toLayerSF_l0 l hl l 0 (List.replicate ((l.length : Int) + t).toNat z55) rfl (by omega) (by rw [List.length_replicate]; omega) (by rw [List.length_replicate]; omega) (by simp)
  rw [List.length_replicate] at h1
  refine ⟨L, ?_, by omega, h2⟩
  refine ev_neg (by decide) (Ev.step (fun k => laws_toLayerSF.j0.eq_2 ..) (ev_neg (by decide) (ev_bind0 ht ?_)))
  rw [w64 (n := (l.length : Int) + t) (by omega) (by omega)]
  exact ev_pos (by omega) (ev_pos (by omega) e)
/-! #### the same, its room forgotten -/
theorem toLayerS_l1 (l : List S64) (hl : l.length ≤ 1000000000) : ∀ (d : Nat) (x : List S55) (j : Nat), x.length - j = d → x.length ≤ 3000000000 → l.length ≤ j → j ≤ x.length → x.take l.length = l.map cvL →
    Ev (fun k => laws_toLayerS.l1 k l x (j : Int)) (l.map cvL) := by
  intro d
  induction d with
  | zero =>
    intro x j hd hx hj hjx ht
    exact Ev.step (fun k => laws_toLayerS.l1.eq_2 ..) (ev_neg (by omega) (ev_pos (by omega) (ev_pos (by omega) (ev_ret (by rw [Int.toNat_natCast, ht])))))
  | succ d ih =>
    intro x j hd hx hj hjx ht
    have e := ih (x.set j (⟨(-7000000000000000101), (-7000000000000000101), (-7000000000000000101)⟩ : S55)) (j + 1) (by rw [List.length_set]; omega) (by rw [List.length_set]; omega) (by omega) (by rw [List.length_set]; omega) (by rw [take_set_ge _ _ _ _ hj, ht])
    refine Ev.step (fun k => laws_toLayerS.l1.eq_2 ..) (ev_pos (by omega) (ev_bind0 rfl (ev_pos (by omega) ?_)))
    dsimp only
    rw [Int.toNat_natCast, w64 (n := (j : Int) + 1) (by omega) (by omega)]
    exact e
theorem toLayerS_l0 (l : List S64) (hl : l.length ≤ 1000000000) : ∀ (R : List S64) (i : Nat) (x : List S55), l.drop i = R → i ≤ l.length → l.length ≤ x.length → x.length ≤ 3000000000 → x.take i = (l.map cvL).take i →
    Ev (fun k => laws_toLayerS.l0 k l x (i : Int)) (l.map cvL) := by
  intro R
  induction R with
  | nil =>
    intro i x h hi hx hx' ht
    have h1 := drop_nil h
    have e := toLayerS_l1 l hl (x.length - l.length) x l.length rfl hx' (Nat.le_refl _) hx (by rw [show l.length = i by omega, ht, List.take_of_length_le (by rw [List.length_map]; exact h1)])
    exact Ev.step (fun k => laws_toLayerS.l0.eq_2 ..) (ev_neg (by omega) e)
  | cons c R ih =>
    intro i x h hi hx hx' ht
    obtain ⟨h1, h2, h3⟩ := rdOf_drop (d := z64) h
    obtain ⟨_, hc, _⟩ := drop_cons h
    have e := ih (i + 1) (x.set i (cvL c)) h3 (by omega) (by rw [List.length_set]; omega) (by rw [List.length_set]; omega) (take_set_next x (l.map cvL) i (cvL c) (by omega) (by rw [List.getElem?_map, hc]; rfl) ht)
    refine Ev.step (fun k => laws_toLayerS.l0.eq_2 ..) (ev_pos (by omega) (ev_pos (by omega) (ev_bind0 rfl (ev_pos (by omega) ?_))))
    dsimp only
    rw [rd64 h2, Int.toNat_natCast, w64 (n := (i : Int) + 1) (by omega) (by omega)]
    exact e
theorem toLayerS_bare (l : List S64) (hl : l.length ≤ 1000000000) : Ev (fun k => laws_toLayerS.f k l true) (l.map cvL) := by
  refine ev_pos rfl (Ev.step (fun k => laws_toLayerS.j0.eq_2 ..) ?_)
  by_cases a : l.length = 0
  · exact ev_pos (by simp [a]) (ev_ret (by rw [List.length_eq_zero_iff.1 a]; rfl))
  · obtain ⟨t, et, t0, t1⟩ := room_some l.length hl
    refine ev_neg (by simp; intro h; simp [h] at a) (ev_bind0 et ?_)
    rw [w64 (n := (l.length : Int) + t) (by omega) (by omega)]
    refine ev_pos (by omega) (ev_pos (by omega) ?_)
    exact toLayerS_l0 l hl l 0 (List.replicate ((l.length : Int) + t).toNat z55) rfl (by omega) (by rw [List.length_replicate]; omega) (by rw [List.length_replicate]; omega) (by simp)

theorem maxLen_eq : maxLen ≤ 9223372036854775807 := by unfold maxLen; decide
theorem takeC {w : World} {A : Option Addr} {n : Nat} {M L : List S55} (hLt : L.take n = M) (hM : M.length = n) (hLl : n ≤ L.length) (h : Kd.C k55 w A L.length L) : Kd.C k55 w A M.length M := by
  have := Kd.C_take (m := n) h hLl
  rwa [hLt] at this
set_option maxHeartbeats 8000000 in
set_option maxRecDepth 100000 in
theorem go (k : Nat) (A0 : Option Addr) (c0 : Nat) (l0 : List S64) (M L : List S55) (z : Int) (a1 a2 : Int) (r1 : Bool) (r2 : Int) (room : Int) (w : World) (hr0 : Kd.C k64 w A0 l0.length l0) (hc0 : l0.length ≤ c0) (hn : l0.length ≤ 1000000)
    (hsz : laws_szLayerS.f l0 1000000 = some z) (hz : ¬ z < 0) (hM : M.length = l0.length)
    (hfull : laws_toLayerSF.f k l0 false = some L) (hLt : L.take l0.length = M) (hLl0 : l0.length ≤ L.length) (hLr : (L.length : Int) = l0.length + room) (hroom : laws_roomBehind.f (l0.length : Int) = some room) (hr0_ : 0 ≤ room) (hr1_ : room ≤ 1000000000000)
    (hbare : laws_toLayerS.f k l0 true = some M) (hspec : spec_IsCalm.f k M a1 a2 = some (r1, r2)) (himpl : ∀ (A : Option Addr) (c : Nat) (w : World), Kd.C k55 w A M.length M → M.length ≤ c → Calls Try.prog 26 #[.slice A M.length c, .int .i64 a1, .int .i64 a2] w fun e w' => e = .returned (.tuple #[.bool r1, .int .i64 r2]) ∧ Below w.heap.size w w') (heq : laws_eqLayerS.f k L L = some true) :
    Calls Try.prog 7 #[.slice A0 l0.length c0, .int .i64 a1, .int .i64 a2] w fun e w' => e = .returned (.bool true) ∧ Below w.heap.size w w' := by
  have takeC : ∀ {w : World} {A : Option Addr}, Kd.C k55 w A L.length L → Kd.C k55 w A M.length M := takeC hLt hM hLl0
  have hLl : M.length ≤ L.length := by omega
  have HR0 := Aside0.mk hr0
  have HC0 := Aside0.mk hc0
  have HB := Aside0.mk (Below.refl w.heap.size w)
  have c2b0 : decide (z < 0) = false := decide_eq_false hz
  have qr10 : (r1 == r1) = true := by simp
  have qr11 : (r1 != r1) = false := by simp
  have qr20 : (r2 == r2) = true := by simp
  have qr21 : (r2 != r2) = false := by simp
  replace hn : l0.length ≤ 1000000000000 := by omega
  have chspec : ∀ (A : Option Addr) (c : Nat) (w : World), Kd.C k55 w A M.length M → M.length ≤ c → Calls Try.prog 25 #[.slice A l0.length c, .int .i64 a1, .int .i64 a2] w fun e w' => e = .returned (.tuple #[.bool r1, .int .i64 r2]) ∧ Below w.heap.size w w' := by
    intro A c w h1 h2
    rw [← hM]
    exact spec_IsCalm.calls k _ _ M a1 a2 r1 r2 w h1 h2 hspec
  have chimpl : ∀ (A : Option Addr) (c : Nat) (w : World), Kd.C k55 w A M.length M → M.length ≤ c → Calls Try.prog 26 #[.slice A l0.length c, .int .i64 a1, .int .i64 a2] w fun e w' => e = .returned (.tuple #[.bool r1, .int .i64 r2]) ∧ Below w.heap.size w w' := by
    intro A c w h1 h2
    rw [← hM]
    exact himpl A c w h1 h2
  clear hr0 hc0 hz
  go_enter Try.func7, Try.ntmps7
  go_wp2_with (first | ((with_reducible refine gate_callee (f := 14) rfl ?_); refine goesL_ (some 17) rfl rfl Try.func14 (by kernel_rfl) rfl #[.slice A0 l0.length c0, .int .i64 1000000] rfl (by (try simp only [List.map_toArray, List.map_cons, List.map_nil]); first | done | rfl | (simp only [List.length_drop, List.length_take]; rfl) | (go_simp; done) | (simp; done) | (simp; rfl)) ?_; (with_reducible refine (laws_szLayerS.calls _ _ l0 1000000 z _ ?side1 ?side2 hsz).mono ?_); (case side1 => repeat (first | exact (Kd.C_below HR0.out (by repeat (first | (with_reducible first | exact HB.out | apply below_alloc | apply pw_below_drewN | apply below_drew1) | exact HB.out))) | (with_reducible refine Kd.C_alloc ?_ _) | (with_reducible refine Kd.C_drewN ?_ _) | (with_reducible refine Kd.C_drew ?_))); (case side2 => exact HC0.out); rintro e wo ⟨rfl, hd⟩; have hb := drawn_below hd; clear hd; refine ⟨_, rfl, ?_⟩; have nb_ := Aside0.mk (below_step (by repeat (first | (with_reducible first | exact HB.out | apply below_alloc | apply pw_below_drewN | apply below_drew1) | exact HB.out)) hb); clear HB; have HB := nb_; clear nb_ hb) | ((with_reducible refine gate_callee (f := 16) rfl ?_); refine goesL_ (some 22) rfl rfl Try.func16 (by kernel_rfl) rfl #[.slice A0 l0.length c0, .bool false] rfl (by (try simp only [List.map_toArray, List.map_cons, List.map_nil]); first | done | rfl | (simp only [List.length_drop, List.length_take]; rfl) | (go_simp; done) | (simp; done) | (simp; rfl)) ?_; (with_reducible refine (laws_toLayerSF.calls k _ _ l0 false L _ ?side1 ?side2 hfull).mono ?_); (case side1 => repeat (first | exact (Kd.C_below HR0.out (by repeat (first | (with_reducible first | exact HB.out | apply below_alloc | apply pw_below_drewN | apply below_drew1) | exact HB.out))) | (with_reducible refine Kd.C_alloc ?_ _) | (with_reducible refine Kd.C_drewN ?_ _) | (with_reducible refine Kd.C_drew ?_))); (case side2 => exact HC0.out); rintro e wp ⟨Ap, cp, rfl, hR, _, hb⟩; have HKp := Aside0.mk (Kd.R_reads' hR).2.2; have HLp := Aside0.mk (Kd.R_reads' hR).2.1; clear hR; refine ⟨_, rfl, ?_⟩; have nb_ := Aside0.mk (below_step (by repeat (first | (with_reducible first | exact HB.out | apply below_alloc | apply pw_below_drewN | apply below_drew1) | exact HB.out)) hb); clear HB; have HB := nb_; clear nb_ hb) | ((with_reducible refine gate_callee (f := 25) rfl ?_); refine goesL_ (some 25) rfl rfl Try.func25 (by kernel_rfl) rfl #[.slice Ap l0.length cp, .int .i64 a1, .int .i64 a2] rfl (by (try simp only [List.map_toArray, List.map_cons, List.map_nil]); first | done | rfl | (simp only [List.length_drop, List.length_take]; rfl) | (go_simp; done) | (simp; done) | (simp; rfl)) ?_; (with_reducible refine (chspec _ _ _ ?side1 ?side2).mono ?_); (case side1 => repeat (first | exact (takeC HKp.out) | (with_reducible refine Kd.C_alloc ?_ _) | (with_reducible refine Kd.C_drewN ?_ _) | (with_reducible refine Kd.C_drew ?_))); (case side2 => exact (Nat.le_trans hLl HLp.out)); rintro e wq ⟨rfl, hb⟩; refine ⟨_, rfl, ?_⟩; have n0_ := Aside0.mk (Kd.C_below (by repeat (first | exact HKp.out | (with_reducible refine Kd.C_alloc ?_ _) | (with_reducible refine Kd.C_drewN ?_ _) | (with_reducible refine Kd.C_drew ?_))) hb); have nb_ := Aside0.mk (below_step (by repeat (first | (with_reducible first | exact HB.out | apply below_alloc | apply pw_below_drewN | apply below_drew1) | exact HB.out)) hb); clear HKp; clear HB; have HKp := n0_; have HB := nb_; clear n0_ nb_ hb) | ((with_reducible refine gate_callee (f := 16) rfl ?_); refine goesL_ (some 29) rfl rfl Try.func16 (by kernel_rfl) rfl #[.slice A0 l0.length c0, .bool false] rfl (by (try simp only [List.map_toArray, List.map_cons, List.map_nil]); first | done | rfl | (simp only [List.length_drop, List.length_take]; rfl) | (go_simp; done) | (simp; done) | (simp; rfl)) ?_; (with_reducible refine (laws_toLayerSF.calls k _ _ l0 false L _ ?side1 ?side2 hfull).mono ?_); (case side1 => repeat (first | exact (Kd.C_below HR0.out (by repeat (first | (with_reducible first | exact HB.out | apply below_alloc | apply pw_below_drewN | apply below_drew1) | exact HB.out))) | (with_reducible refine Kd.C_alloc ?_ _) | (with_reducible refine Kd.C_drewN ?_ _) | (with_reducible refine Kd.C_drew ?_))); (case side2 => exact HC0.out); rintro e wx ⟨Ax, cx, rfl, hR, _, hb⟩; have HKx := Aside0.mk (Kd.R_reads' hR).2.2; have HLx := Aside0.mk (Kd.R_reads' hR).2.1; clear hR; refine ⟨_, rfl, ?_⟩; have nb_ := Aside0.mk (below_step (by repeat (first | (with_reducible first | exact HB.out | apply below_alloc | apply pw_below_drewN | apply below_drew1) | exact HB.out)) hb); clear HB; have HB := nb_; clear nb_ hb) | ((with_reducible refine gate_callee (f := 26) rfl ?_); refine goesL_ (some 34) rfl rfl Try.func26 (by kernel_rfl) rfl #[.slice Ax l0.length cx, .int .i64 a1, .int .i64 a2] rfl (by (try simp only [List.map_toArray, List.map_cons, List.map_nil]); first | done | rfl | (simp only [List.length_drop, List.length_take]; rfl) | (go_simp; done) | (simp; done) | (simp; rfl)) ?_; (with_reducible refine (chimpl _ _ _ ?side1 ?side2).mono ?_); (case side1 => repeat (first | exact (takeC HKx.out) | (with_reducible refine Kd.C_alloc ?_ _) | (with_reducible refine Kd.C_drewN ?_ _) | (with_reducible refine Kd.C_drew ?_))); (case side2 => exact (Nat.le_trans hLl HLx.out)); rintro e wr ⟨rfl, hb⟩; refine ⟨_, rfl, ?_⟩; have n0_ := Aside0.mk (Kd.C_below (by repeat (first | exact HKx.out | (with_reducible refine Kd.C_alloc ?_ _) | (with_reducible refine Kd.C_drewN ?_ _) | (with_reducible refine Kd.C_drew ?_))) hb); have nb_ := Aside0.mk (below_step (by repeat (first | (with_reducible first | exact HB.out | apply below_alloc | apply pw_below_drewN | apply below_drew1) | exact HB.out)) hb); clear HKx; clear HB; have HKx := n0_; have HB := nb_; clear n0_ nb_ hb) | ((with_reducible refine gate_callee (f := 16) rfl ?_); refine goesL_ (some 47) rfl rfl Try.func16 (by kernel_rfl) rfl #[.slice A0 l0.length c0, .bool false] rfl (by (try simp only [List.map_toArray, List.map_cons, List.map_nil]); first | done | rfl | (simp only [List.length_drop, List.length_take]; rfl) | (go_simp; done) | (simp; done) | (simp; rfl)) ?_; (with_reducible refine (laws_toLayerSF.calls k _ _ l0 false L _ ?side1 ?side2 hfull).mono ?_); (case side1 => repeat (first | exact (Kd.C_below HR0.out (by repeat (first | (with_reducible first | exact HB.out | apply below_alloc | apply pw_below_drewN | apply below_drew1) | exact HB.out))) | (with_reducible refine Kd.C_alloc ?_ _) | (with_reducible refine Kd.C_drewN ?_ _) | (with_reducible refine Kd.C_drew ?_))); (case side2 => exact HC0.out); rintro e wy ⟨Ay, cy, rfl, hR, _, hb⟩; have HKy := Aside0.mk (Kd.R_reads' hR).2.2; have HLy := Aside0.mk (Kd.R_reads' hR).2.1; clear hR; refine ⟨_, rfl, ?_⟩; have n0_ := Aside0.mk (Kd.C_below (by repeat (first | exact HKx.out | (with_reducible refine Kd.C_alloc ?_ _) | (with_reducible refine Kd.C_drewN ?_ _) | (with_reducible refine Kd.C_drew ?_))) hb); have nb_ := Aside0.mk (below_step (by repeat (first | (with_reducible first | exact HB.out | apply below_alloc | apply pw_below_drewN | apply below_drew1) | exact HB.out)) hb); clear HKx; clear HB; have HKx := n0_; have HB := nb_; clear n0_ nb_ hb) | ((with_reducible refine gate_callee (f := 18) rfl ?_); refine goesL_ (some 48) rfl rfl Try.func18 (by kernel_rfl) rfl #[.slice Ax l0.length cx, .slice Ay l0.length cy] rfl (by (try simp only [List.map_toArray, List.map_cons, List.map_nil]); first | done | rfl | (simp only [List.length_drop, List.length_take]; rfl) | (go_simp; done) | (simp; done) | (simp; rfl)) ?_; (with_reducible refine (laws_intactLayerSF.calls k l0.length _ _ L _ _ L room _ ?side1 ?side2 ?side3 ?side4 hroom hn hr0_ hr1_ hLr hLr heq).mono ?_); (case side1 => repeat (first | exact HKx.out | (with_reducible refine Kd.C_alloc ?_ _) | (with_reducible refine Kd.C_drewN ?_ _) | (with_reducible refine Kd.C_drew ?_))); (case side2 => exact HLx.out); (case side3 => repeat (first | exact HKy.out | (with_reducible refine Kd.C_alloc ?_ _) | (with_reducible refine Kd.C_drewN ?_ _) | (with_reducible refine Kd.C_drew ?_))); (case side4 => exact HLy.out); rintro e ws ⟨rfl, hb⟩; refine ⟨_, rfl, ?_⟩; have n0_ := Aside0.mk (Kd.C_below (by repeat (first | exact HKx.out | (with_reducible refine Kd.C_alloc ?_ _) | (with_reducible refine Kd.C_drewN ?_ _) | (with_reducible refine Kd.C_drew ?_))) hb); have n1_ := Aside0.mk (Kd.C_below (by repeat (first | exact HKy.out | (with_reducible refine Kd.C_alloc ?_ _) | (with_reducible refine Kd.C_drewN ?_ _) | (with_reducible refine Kd.C_drew ?_))) hb); have nb_ := Aside0.mk (below_step (by repeat (first | (with_reducible first | exact HB.out | apply below_alloc | apply pw_below_drewN | apply below_drew1) | exact HB.out)) hb); clear HKx; clear HKy; clear HB; have HKx := n0_; have HKy := n1_; have HB := nb_; clear n0_ n1_ nb_ hb) | ((with_reducible refine gate_callee (f := 16) rfl ?_); refine goesL_ (some 52) rfl rfl Try.func16 (by kernel_rfl) rfl #[.slice A0 l0.length c0, .bool true] rfl (by (try simp only [List.map_toArray, List.map_cons, List.map_nil]); first | done | rfl | (simp only [List.length_drop, List.length_take]; rfl) | (go_simp; done) | (simp; done) | (simp; rfl)) ?_; (with_reducible refine (laws_toLayerS.calls k _ _ l0 true M _ ?side1 ?side2 hbare).mono ?_); (case side1 => repeat (first | exact (Kd.C_below HR0.out (by repeat (first | (with_reducible first | exact HB.out | apply below_alloc | apply pw_below_drewN | apply below_drew1) | exact HB.out))) | (with_reducible refine Kd.C_alloc ?_ _) | (with_reducible refine Kd.C_drewN ?_ _) | (with_reducible refine Kd.C_drew ?_))); (case side2 => exact HC0.out); rintro e wz ⟨vz, rfl, hR, hb⟩; obtain ⟨Az, cz, ez⟩ := Kd.R_slice hR; subst ez; have HKz := Aside0.mk (Kd.R_reads' hR).2.2; have HLz := Aside0.mk (Kd.R_reads' hR).2.1; clear hR; refine ⟨_, rfl, ?_⟩; have nb_ := Aside0.mk (below_step (by repeat (first | (with_reducible first | exact HB.out | apply below_alloc | apply pw_below_drewN | apply below_drew1) | exact HB.out)) hb); clear HB; have HB := nb_; clear nb_ hb) | ((with_reducible refine gate_callee (f := 26) rfl ?_); refine goesL_ (some 55) rfl rfl Try.func26 (by kernel_rfl) rfl #[.slice Az M.length cz, .int .i64 a1, .int .i64 a2] rfl (by (try simp only [List.map_toArray, List.map_cons, List.map_nil]); first | done | rfl | (simp only [List.length_drop, List.length_take]; rfl) | (go_simp; done) | (simp; done) | (simp; rfl)) ?_; (with_reducible refine (himpl _ _ _ ?side1 ?side2).mono ?_); (case side1 => repeat (first | exact HKz.out | (with_reducible refine Kd.C_alloc ?_ _) | (with_reducible refine Kd.C_drewN ?_ _) | (with_reducible refine Kd.C_drew ?_))); (case side2 => exact HLz.out); rintro e wt ⟨rfl, hb⟩; refine ⟨_, rfl, ?_⟩; have n0_ := Aside0.mk (Kd.C_below (by repeat (first | exact HKz.out | (with_reducible refine Kd.C_alloc ?_ _) | (with_reducible refine Kd.C_drewN ?_ _) | (with_reducible refine Kd.C_drew ?_))) hb); have nb_ := Aside0.mk (below_step (by repeat (first | (with_reducible first | exact HB.out | apply below_alloc | apply pw_below_drewN | apply below_drew1) | exact HB.out)) hb); clear HKz; clear HB; have HKz := n0_; have HB := nb_; clear n0_ nb_ hb))
  go_ret
  exact ⟨by first | rfl | (simp [errW_none, errW_some] <;> rfl) | (simp [*, errW_none, errW_some] <;> rfl), by repeat (first | (with_reducible first | exact HB.out | apply below_alloc | apply pw_below_drewN | apply below_drew1) | exact HB.out)⟩
set_option maxHeartbeats 8000000 in
set_option maxRecDepth 100000 in
theorem big (k : Nat) (A0 : Option Addr) (c0 : Nat) (l0 : List S64) (z : Int) (a1 a2 : Int) (w : World) (hr0 : Kd.C k64 w A0 l0.length l0) (hc0 : l0.length ≤ c0) (hsz : laws_szLayerS.f l0 1000000 = some z) (hz : z < 0) : Calls Try.prog 7 #[.slice A0 l0.length c0, .int .i64 a1, .int .i64 a2] w fun e w' => e = .returned (.bool true) ∧ Below w.heap.size w w' := by
  have HR0 := Aside0.mk hr0
  have HC0 := Aside0.mk hc0
  have HB := Aside0.mk (Below.refl w.heap.size w)
  have c2b0 : decide (z < 0) = true := decide_eq_true hz
  clear hr0 hc0 hz
  go_enter Try.func7, Try.ntmps7
  go_wp2_with (first | ((with_reducible refine gate_callee (f := 14) rfl ?_); refine goesL_ (some 17) rfl rfl Try.func14 (by kernel_rfl) rfl #[.slice A0 l0.length c0, .int .i64 1000000] rfl (by (try simp only [List.map_toArray, List.map_cons, List.map_nil]); first | done | rfl | (simp only [List.length_drop, List.length_take]; rfl) | (go_simp; done) | (simp; done) | (simp; rfl)) ?_; (with_reducible refine (laws_szLayerS.calls _ _ l0 1000000 z _ ?side1 ?side2 hsz).mono ?_); (case side1 => repeat (first | exact (Kd.C_below HR0.out (by repeat (first | (with_reducible first | exact HB.out | apply below_alloc | apply pw_below_drewN | apply below_drew1) | exact HB.out))) | (with_reducible refine Kd.C_alloc ?_ _) | (with_reducible refine Kd.C_drewN ?_ _) | (with_reducible refine Kd.C_drew ?_))); (case side2 => exact HC0.out); rintro e wo ⟨rfl, hd⟩; have hb := drawn_below hd; clear hd; refine ⟨_, rfl, ?_⟩; have nb_ := Aside0.mk (below_step (by repeat (first | (with_reducible first | exact HB.out | apply below_alloc | apply pw_below_drewN | apply below_drew1) | exact HB.out)) hb); clear HB; have HB := nb_; clear nb_ hb))
  go_ret
  exact ⟨by first | rfl | (simp [errW_none, errW_some] <;> rfl) | (simp [*, errW_none, errW_some] <;> rfl), by repeat (first | (with_reducible first | exact HB.out | apply below_alloc | apply pw_below_drewN | apply below_drew1) | exact HB.out)⟩
theorem ofRow3 {w : World} {a : Option Addr} {len cap : Nat} {zs : List (Int × Int × Int)} (h : (a = none ∧ len = 0 ∧ cap = 0 ∧ zs = []) ∨ ∃ x, a = some x ∧ len ≤ cap ∧ cap ≤ maxLen ∧ zs.length = len ∧ ∀ i p, zs[i]? = some p → (w.cell? (x.add (i * 3 + 0)) = some (.int .i64 (p.1)) ∧ w.cell? (x.add (i * 3 + 1)) = some (.int .i64 (p.2.1)) ∧ w.cell? (x.add (i * 3 + 2)) = some (.int .i64 (p.2.2)) ∧ (Lit.int .i64 p.1).wf = true ∧ (Lit.int .i64 p.2.1).wf = true ∧ (Lit.int .i64 p.2.2).wf = true)) :
    ∃ l : List S64, len = l.length ∧ Kd.C k64 w a l.length l ∧ l.length ≤ cap ∧ l.length ≤ maxLen := by
  rcases h with ⟨rfl, rfl, rfl, rfl⟩ | ⟨x, rfl, h1, h2, h3, h4⟩
  · exact ⟨[], rfl, ⟨rfl, by simp, fun h => absurd h (by simp)⟩, by simp, by simp⟩
  · have hm := maxLen_eq
    refine ⟨zs.map fun p => ⟨p.1, p.2.1, p.2.2⟩, by simp [h3], ⟨rfl, by simp; omega, fun _ => ⟨x, rfl, fun j q hj => ?_⟩⟩, by simp; omega, by simp; omega⟩
    rw [List.getElem?_map] at hj
    obtain ⟨p, hp, rfl⟩ := Option.map_eq_some_iff.1 hj
    obtain ⟨g0, g1, g2, _⟩ := h4 j p hp
    refine ⟨_, rfl, k64_mk w _, fun i u hi => ?_⟩
    match i, hi with
    | 0, hi => simp at hi; subst hi; exact g0
    | 1, hi => simp at hi; subst hi; exact g1
    | 2, hi => simp at hi; subst hi; exact g2
    | i + 3, hi => simp at hi
theorem sz_some (l : List S64) (h : l.length ≤ maxLen) : ∃ z, laws_szLayerS.f l 1000000 = some z ∧ (¬ z < 0 → l.length ≤ 1000000) := by
  have hm := maxLen_eq
  unfold laws_szLayerS.f
  rw [w64 (n := 1000000 - (l.length : Int)) (by omega) (by omega)]
  split
  · exact ⟨_, rfl, by omega⟩
  · exact ⟨_, rfl, by omega⟩
theorem walk (W : World) (a0 : Option Addr) (len0 cap0 : Nat) (z0 : List (Int × Int × Int)) (w0 : (a0 = none ∧ len0 = 0 ∧ cap0 = 0 ∧ z0 = []) ∨ ∃ x, a0 = some x ∧ len0 ≤ cap0 ∧ cap0 ≤ maxLen ∧ z0.length = len0 ∧ ∀ i p, z0[i]? = some p → (W.cell? (x.add (i * 3 + 0)) = some (.int .i64 (p.1)) ∧ W.cell? (x.add (i * 3 + 1)) = some (.int .i64 (p.2.1)) ∧ W.cell? (x.add (i * 3 + 2)) = some (.int .i64 (p.2.2)) ∧ (Lit.int .i64 p.1).wf = true ∧ (Lit.int .i64 p.2.1).wf = true ∧ (Lit.int .i64 p.2.2).wf = true)) (a1 : Int) (_ : (Lit.int .i64 a1).wf = true) (a2 : Int) (_ : (Lit.int .i64 a2).wf = true) :
    Calls Try.prog 7 #[.slice a0 len0 cap0, .int .i64 a1, .int .i64 a2] W fun e w' => e = .returned (.bool true) ∧ Below W.heap.size W w' := by
  obtain ⟨l0, rfl, hr, hc0, hm⟩ := ofRow3 w0
  obtain ⟨z, hsz, hzz⟩ := sz_some l0 hm
  by_cases g : z < 0
  · exact big 0 a0 cap0 l0 z a1 a2 W hr hc0 hsz g
  have hn := hzz g
  obtain ⟨room, er, r0, r1⟩ := room_some l0.length (by omega)
  obtain ⟨L, eF, hF, hT⟩ := toLayerSF_ev l0 (by omega) er r0 r1
  obtain ⟨K2, h2⟩ := spec_IsCalm_ev (l0.map cvL) (by simp; omega) a1 a2
  have himpl := impl_IsCalm_own (l0.map cvL) (by simp; omega) a1 a2
  have K1 : Nat := 0
  generalize calmM (l0.map cvL) a1 a2 = rr at h2 himpl
  obtain ⟨r1, r2⟩ := rr
  obtain ⟨K3, h3⟩ := eF
  obtain ⟨K4, h4⟩ := toLayerS_bare l0 (by omega)
  obtain ⟨K5, h5⟩ := eqLayerS_ev L (by omega)
  exact go (K1 + K2 + K3 + K4 + K5) a0 cap0 l0 (l0.map cvL) L z a1 a2 r1 r2 room W hr hc0 hn hsz g (by simp) (h3 _ (by omega)) hT (by omega) (by omega) er r0 (by omega) (h4 _ (by omega)) (h2 _ (by omega)) himpl (h5 _ (by omega))


end Go.Proofs.Ytidibjmckgbpbaa.GoFnExactIsCalm
