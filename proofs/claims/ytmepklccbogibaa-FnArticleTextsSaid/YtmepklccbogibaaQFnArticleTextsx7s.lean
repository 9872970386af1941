-- Written by a program of this project's session, after the kit's print (a turned copy of its programs). Lean checks it.
import Derived.Test.YtmepklccbogibaaQFnArticleTextsx0
import Derived.Test.YtmepklccbogibaaQFnArticleTextsx6
import Derived.Test.YtmepklccbogibaaQFnArticleTextsx7h
namespace Go.Proofs.Ytmepklccbogibaa.QFnArticleTexts
open Go.RowKit Go.Proofs.YtmepklccbogibaaW.PrintWords Go.Proofs.YtmepklccbogibaaW.PrintLast Go.Proofs.YtmepklccbogibaaW.PrintMore
attribute [local go_sem] max2_int min2_int max_two min_two max_three min_three max_four min_four   -- for this text's walks alone
set_option linter.unusedVariables false
set_option linter.unusedSimpArgs false
theorem cf9 {W : World} {g : Nat} {a : Addr} {o0 o1 o2 o3 o4 o5 o6 o7 o8 : Nat} (h : a.block ≠ g) (u0 u1 u2 u3 u4 u5 u6 u7 u8 : Value) : (((((((((W.setCell ⟨g, o0, none⟩ u0).setCell ⟨g, o1, none⟩ u1).setCell ⟨g, o2, none⟩ u2).setCell ⟨g, o3, none⟩ u3).setCell ⟨g, o4, none⟩ u4).setCell ⟨g, o5, none⟩ u5).setCell ⟨g, o6, none⟩ u6).setCell ⟨g, o7, none⟩ u7).setCell ⟨g, o8, none⟩ u8).cell? a = W.cell? a :=
  (cell_far (p := ⟨g, _, none⟩) h _).trans ((cell_far (p := ⟨g, _, none⟩) h _).trans ((cell_far (p := ⟨g, _, none⟩) h _).trans ((cell_far (p := ⟨g, _, none⟩) h _).trans ((cell_far (p := ⟨g, _, none⟩) h _).trans ((cell_far (p := ⟨g, _, none⟩) h _).trans ((cell_far (p := ⟨g, _, none⟩) h _).trans ((cell_far (p := ⟨g, _, none⟩) h _).trans (cell_far (p := ⟨g, _, none⟩) h _))))))))

/-! ### impl_ReadArticle: function 24 -/
def impl_ReadArticle.l0 : Nat → List ByteArray → List Int → Int → Option (ByteArray × Int × Int × Int × Int × Int × Int × Int × Int × Int)
 | 0, _, _, _ => none
 | k + 1, ws, ns, x => if x < 8 then ((impl_readDecimal.f k (rdOf ByteArray.empty ws (wrap64 (x + 1)))).bind fun bt => (if bt.2 = true then (impl_ReadArticle.l0 k ws (ns.set x.toNat bt.1) (wrap64 (x + 1))) else (some ((⟨#[]⟩ : ByteArray), 0, 0, 0, 0, 0, 0, 0, 0, 6)))) else (if 0 < (ws.length : Int) then (if 0 < (ns.length : Int) then (if 1 < (ns.length : Int) then (if 2 < (ns.length : Int) then (if 3 < (ns.length : Int) then (if 4 < (ns.length : Int) then (if 5 < (ns.length : Int) then (if 6 < (ns.length : Int) then (if 7 < (ns.length : Int) then ((impl_IsArticle.f k (rdOf ByteArray.empty ws 0) (rd ns 0) (rd ns 1) (rd ns 2) (rd ns 3) (rd ns 4) (rd ns 5) (rd ns 6) (rd ns 7)).bind fun t128 => (if t128 = true then (some (rdOf ByteArray.empty ws 0, rd ns 0, rd ns 1, rd ns 2, rd ns 3, rd ns 4, rd ns 5, rd ns 6, rd ns 7, 0)) else (some ((⟨#[]⟩ : ByteArray), 0, 0, 0, 0, 0, 0, 0, 0, 6)))) else (none)) else (none)) else (none)) else (none)) else (none)) else (none)) else (none)) else (none)) else (none))
def impl_ReadArticle.f (k : Nat) (a0 : ByteArray) : Option (ByteArray × Int × Int × Int × Int × Int × Int × Int × Int × Int) := (impl_splitAt.f k a0 47).bind fun ws => (if (ws.length : Int) = 9 then (impl_ReadArticle.l0 k ws [0, 0, 0, 0, 0, 0, 0, 0] 0) else (some ((⟨#[]⟩ : ByteArray), 0, 0, 0, 0, 0, 0, 0, 0, 6)))
theorem impl_ReadArticle.mono_l : ∀ k, (∀ y0 y1 y2, LeO (impl_ReadArticle.l0 k y0 y1 y2) (impl_ReadArticle.l0 (k + 1) y0 y1 y2))
 | 0 => fun _ _ _ r h => by simp [impl_ReadArticle.l0] at h
 | k + 1 => by
  have ih0 := impl_ReadArticle.mono_l k
  ·
   intro y0 y1 y2
   unfold impl_ReadArticle.l0
   repeat' first
   | (with_reducible exact ih0 _ _ _)
   | (with_reducible exact impl_readDecimal.mono _ _)
   | (with_reducible exact impl_splitAt.mono _ _ _)
   | (with_reducible exact impl_IsArticle.mono _ _ _ _ _ _ _ _ _ _)
   | (with_reducible exact LeO.refl _)
   | (with_reducible exact LeO.none _)
   | (with_reducible refine LeO.ite ?_ ?_)
   | (with_reducible refine LeO.bind ?_ (fun _ => ?_))
   | exact ih0 _ _ _
   | exact impl_readDecimal.mono _ _
   | exact impl_splitAt.mono _ _ _
   | exact impl_IsArticle.mono _ _ _ _ _ _ _ _ _ _
   | exact LeO.none _
   | refine LeO.ite ?_ ?_
   | refine LeO.bind ?_ (fun _ => ?_)
theorem impl_ReadArticle.mono : ∀ a0 k, LeO (impl_ReadArticle.f k a0) (impl_ReadArticle.f (k + 1) a0) := by
 intro a0 k
 have ih0 := impl_ReadArticle.mono_l k
 unfold impl_ReadArticle.f
 repeat' first
   | (with_reducible exact ih0 _ _ _)
   | (with_reducible exact impl_readDecimal.mono _ _)
   | (with_reducible exact impl_splitAt.mono _ _ _)
   | (with_reducible exact impl_IsArticle.mono _ _ _ _ _ _ _ _ _ _)
   | (with_reducible exact LeO.refl _)
   | (with_reducible exact LeO.none _)
   | (with_reducible refine LeO.ite ?_ ?_)
   | (with_reducible refine LeO.bind ?_ (fun _ => ?_))
   | exact ih0 _ _ _
   | exact impl_readDecimal.mono _ _
   | exact impl_splitAt.mono _ _ _
   | exact impl_IsArticle.mono _ _ _ _ _ _ _ _ _ _
   | exact LeO.none _
   | refine LeO.ite ?_ ?_
   | refine LeO.bind ?_ (fun _ => ?_)
def impl_ReadArticle.T13 : Bool × List (List Nat × List Nat) := (true, [([], []), ([0], [0]), ([1], [1]), ([], []), ([3], [3]), ([], []), ([5], [5]), ([], []), ([7], [7]), ([], []), ([9], [9]), ([], []), ([11], [11]), ([], []), ([13], [13]), ([], []), ([15], [15]), ([], []), ([17], [17]), ([2, 4, 6, 8, 10, 12, 14, 16, 18], [2, 4, 6, 8, 10, 12, 14, 16, 18]), ([], []), ([20, 19, 0, 1, 2, 3, 4, 5, 6, 7, 8, 9, 10, 11, 12, 13, 14, 15, 16, 17, 18, 19, 20], [19, 20])])
def impl_ReadArticle.B13 : List Nat := [0, 1, 3, 0, 8, 0, 32, 0, 128, 0, 512, 0, 2048, 0, 8192, 0, 32768, 0, 131072, 524287, 0, 2097151]
theorem impl_ReadArticle.tab13 : rtab .any (opsOf Try.f24 13) = impl_ReadArticle.T13 := by kernel_rfl
theorem impl_ReadArticle.bits13 : waitsOk impl_ReadArticle.T13.2 impl_ReadArticle.B13 = true := by kernel_rfl
theorem arr8 {w1 : World} {g b : Nat} (h : w1.heap[g]? = some (.cells #[.int .i64 0, .int .i64 0, .int .i64 0, .int .i64 0, .int .i64 0, .int .i64 0, .int .i64 0, .int .i64 0] 84 (0, 0))) (hb : b ≤ g) : Kd.R (Kd.int .i64) 84 w1 b (fun _ => True) (.slice (some ⟨g, 0, none⟩) 8 8) [0, 0, 0, 0, 0, 0, 0, 0] := by
 refine ⟨fun _ _ => trivial, [.int .i64 0, .int .i64 0, .int .i64 0, .int .i64 0, .int .i64 0, .int .i64 0, .int .i64 0, .int .i64 0], ⟨rfl, .inr ⟨g, 8, _, rfl, hb, h, by simp, by unfold maxLen; decide, rfl, rfl⟩⟩, rfl, fun m p hm => ?_⟩
 obtain ⟨hl, he⟩ := List.getElem?_eq_some_iff.mp hm
 have hl' : m < 8 := hl
 rcases m with _ | _ | _ | _ | _ | _ | _ | _ | m
 all_goals first | (subst he; exact rfl) | (subst he; exact ⟨rfl, rfl⟩) | omega
theorem put8 {wr w8 : World} {b g : Nat} {x : Int} {m : Int} {ns : List Int} (nd : Nat) (h : Kd.R (Kd.int .i64) 84 (wr.setCell ⟨g, x.toNat, none⟩ (.int .i64 m)) b (fun _ => True) (.slice (some ⟨g, 0, none⟩) 8 8) ns) (hw : w8 = (wr.drewN nd).setCell ⟨g, x.toNat, none⟩ (.int .i64 m)) : Kd.R (Kd.int .i64) 84 w8 b (fun _ => True) (.slice (some ⟨g, 0, none⟩) 8 8) ns := by
 rw [hw]
 exact Kd.R_step h (fun k _ _ => rfl)
set_option maxHeartbeats 16000000 in
set_option maxRecDepth 100000 in
theorem impl_ReadArticle.calls (k : Nat) (a0 : ByteArray) (r1 : ByteArray) (r2 : Int) (r3 : Int) (r4 : Int) (r5 : Int) (r6 : Int) (r7 : Int) (r8 : Int) (r9 : Int) (r10 : Int) (w : World) (h : impl_ReadArticle.f k a0 = some (r1, r2, r3, r4, r5, r6, r7, r8, r9, r10)) :
  Calls Try.prog 24 #[.string a0] w fun e w' => e = .returned (.tuple #[.agg #[.string r1, .int .i64 r2, .int .i64 r3, .int .i64 r4, .int .i64 r5, .int .i64 r6, .int .i64 r7, .int .i64 r8, .int .i64 r9], .int .i64 r10]) ∧ Below w.heap.size w w' := by
 have hu26 := Try.underlying26
 have HB := Aside0.mk (Below.refl w.heap.size w)
 have H : ((impl_splitAt.f k a0 47).bind fun ws => (if (ws.length : Int) = 9 then (impl_ReadArticle.l0 k ws [0, 0, 0, 0, 0, 0, 0, 0] 0) else (some ((⟨#[]⟩ : ByteArray), 0, 0, 0, 0, 0, 0, 0, 0, 6)))) = some (r1, r2, r3, r4, r5, r6, r7, r8, r9, r10) := h
 clear h
 replace H := Option.bind_eq_some_iff.mp H
 obtain ⟨ws, A20, H⟩ := H
 replace H : (if (ws.length : Int) = 9 then (impl_ReadArticle.l0 k ws [0, 0, 0, 0, 0, 0, 0, 0] 0) else (some ((⟨#[]⟩ : ByteArray), 0, 0, 0, 0, 0, 0, 0, 0, 6))) = some (r1, r2, r3, r4, r5, r6, r7, r8, r9, r10) := H
 have A2 := Aside0.mk A20
 clear A20
 by_cases c3 : (ws.length : Int) = 9
 ·
  rw [if_pos c3] at H
  have c3b0 : ((ws.length : Int) == 9) = true := beq_iff_eq.mpr c3
  have c3b1 : ((ws.length : Int) != 9) = false := bne_eq_false_iff_eq.mpr c3
  have H' := Aside0.mk H
  clear H
  have c3a := Aside0.mk c3
  clear c3
  have hu84 := Try.underlying84
  go_enter Try.func24, Try.ntmps24
  go_wp2_with (first | ((with_reducible refine gate_dst (N := 2) rfl ?_); refine box_event ?hg (N := 2) ?hd (cs := #[.string (⟨#[]⟩ : ByteArray), .int .i64 0, .int .i64 0, .int .i64 0, .int .i64 0, .int .i64 0, .int .i64 0, .int .i64 0, .int .i64 0]) (t := 26) ?hr ?_; (case hd => rfl); (case hg => rfl); (case hr => first | (go_simp; done) | (go_simp; rfl)); intro gb162 hg w3 hbox hb; have n0_ := Aside0.mk (below_step (by repeat (first | (with_reducible first | exact HB.out | apply lA | apply lN | apply lD) | exact HB.out)) hb); have BK162 := Aside0.mk hbox; have GE162 := Aside0.mk ((by rw [hg]; exact (below_size (by repeat (first | (with_reducible first | exact HB.out | apply lA | apply lN | apply lD) | exact HB.out)))) : w.heap.size ≤ gb162); clear HB; have HB := n0_; clear n0_ hb hbox hg) | ((with_reducible refine gate_callee (f := 70) rfl ?_); refine goesL_ (some 11) rfl rfl Try.func70 (by kernel_rfl) rfl #[.string a0, .int .u8 47] rfl (by (try simp only [List.map_toArray, List.map_cons, List.map_nil]); first | done | rfl | (go_simp; done) | simp) ?_; (with_reducible refine (impl_splitAt.calls k a0 47 ws _ A2.out).mono ?_); rintro e wp ⟨vp, rfl, ho0, hb⟩; refine ⟨_, rfl, ?_⟩; have n1_ := Aside0.mk (blk_below (g := gb162) (o := .cells #[.string (⟨#[]⟩ : ByteArray), .int .i64 0, .int .i64 0, .int .i64 0, .int .i64 0, .int .i64 0, .int .i64 0, .int .i64 0, .int .i64 0] 26 (0, 0)) (by (with_reducible repeat first | apply bN | apply bD | apply bA); exact BK162.out) hb); have n2_ := Aside0.mk (below_step (by repeat (first | (with_reducible first | exact HB.out | apply lA | apply lN | apply lD) | exact HB.out)) hb); clear BK162 HB; have BK162 := n1_; have HB := n2_; clear n1_ n2_; obtain ⟨Ap, cp, ep⟩ := Kd.R_slice ho0; subst ep; have HP := Aside0.mk (Kd.R_reads' ho0).2.2; clear ho0 hb) | ((with_reducible refine gate_dst (N := 5) rfl ?_); refine box_event ?hg (N := 5) ?hd (cs := #[.int .i64 0, .int .i64 0, .int .i64 0, .int .i64 0, .int .i64 0, .int .i64 0, .int .i64 0, .int .i64 0]) (t := 84) ?hr ?_; (case hd => rfl); (case hg => rfl); (case hr => first | (go_simp; done) | (go_simp; rfl)); intro gb1 hg w5 hbox hb; have HBP := Aside0.mk (below_step (Below.refl wp.heap.size wp) hb); have GEP := Aside0.mk ((by rw [hg]; exact Nat.le_refl _) : wp.heap.size ≤ gb1); have HA8 := Aside0.mk (arr8 (b := w.heap.size) hbox (Nat.le_trans HB.out.size GEP.out)); clear hb hbox hg))
  go_loopg [16] k (fun kq v16 w' => ∃ (ns : List Int) (x16 : Int), v16 = .int .i64 x16 ∧ Aside0 (impl_ReadArticle.l0 kq ws ns x16 = some (r1, r2, r3, r4, r5, r6, r7, r8, r9, r10)) ∧ Aside0 (kq ≤ k) ∧ Aside0 (0 ≤ x16 ∧ x16 ≤ 8 ∧ ns.length = 8) ∧ Aside0 (Kd.R (Kd.int .i64) 84 w' w.heap.size (fun _ => True) (.slice (some ⟨gb1, 0, none⟩) 8 8) ns) ∧ Aside0 (Below wp.heap.size wp w'))
  case atStart => exact ⟨[0, 0, 0, 0, 0, 0, 0, 0], 0, (by first | rfl | (simp; done) | (simp [*]; done)), H', ⟨Nat.le_refl _⟩, ⟨by omega, by omega, rfl⟩, ⟨by (with_reducible repeat (first | apply rA | apply rN | apply rD)); exact HA8.out⟩, ⟨by repeat (first | (with_reducible first | exact HBP.out | apply lA | apply lN | apply lD) | exact HBP.out)⟩⟩
  case round =>
   clear H' HA8 HBP
   try clear p2
   obtain ⟨ns, x16, rfl, HA, HK1, HI, HO8, HBP⟩ := hrel
   obtain ⟨i0, i8, nl⟩ := HI.out
   cases gk with
   | zero => exact absurd HA.out (by simp [impl_ReadArticle.l0])
   | succ k1 =>
    have H := HA.out
    clear HA
    simp only [impl_ReadArticle.l0] at H
    have n1_ := Aside0.mk (below_step HB.out HBP.out)
    have n2_ := Aside0.mk (blk_below (g := gb162) (o := .cells #[.string (⟨#[]⟩ : ByteArray), .int .i64 0, .int .i64 0, .int .i64 0, .int .i64 0, .int .i64 0, .int .i64 0, .int .i64 0, .int .i64 0] 26 (0, 0)) BK162.out HBP.out)
    have HPr := Aside0.mk (Kd.C_below HP.out HBP.out)
    by_cases c4 : x16 < 8
    ·
     rw [if_pos c4] at H
     have c4b0 : decide (x16 < 8) = true := decide_eq_true c4
     replace H := Option.bind_eq_some_iff.mp H
     obtain ⟨⟨t1, t2⟩, A50, H⟩ := H
     replace H : (if t2 = true then (impl_ReadArticle.l0 k1 ws (ns.set x16.toNat t1) (wrap64 (x16 + 1))) else (some ((⟨#[]⟩ : ByteArray), 0, 0, 0, 0, 0, 0, 0, 0, 6))) = some (r1, r2, r3, r4, r5, r6, r7, r8, r9, r10) := H
     have hxx : wrap64 (x16 + 1) = x16 + 1 := by unfold wrap64; omega
     have hxi : (IntKind.i64.wrap (x16 + 1)) = wrap64 (x16 + 1) := i64_w _
     have p6 : 0 ≤ wrap64 (x16 + 1) := by omega
     have q6 : wrap64 (x16 + 1) < (ws.length : Int) := by rw [c3a.out]; omega
     obtain ⟨ad6, e6, hx6_0⟩ := Kd.at_string HPr.out (wrap64 (x16 + 1)) p6 q6
     cases e6
     have A50' : impl_readDecimal.f k1 (rdOf ByteArray.empty ws (wrap64 (x16 + 1))) = some (t1, t2) := A50
     clear A50
     obtain ⟨j6, hj6⟩ : ∃ j_ : Int, wrap64 (x16 + 1) = j_ := ⟨_, rfl⟩
     rw [hj6] at hx6_0 p6 q6 A50' hxi
     have A5 := Aside0.mk A50'
     clear A50'
     replace p6 := eq_true p6
     replace q6 := eq_true q6
     by_cases c6 : t2 = true
     ·
      subst c6
      have H1 : impl_ReadArticle.l0 k1 ws (ns.set x16.toNat t1) (wrap64 (x16 + 1)) = some (r1, r2, r3, r4, r5, r6, r7, r8, r9, r10) := by rw [if_pos rfl] at H; exact H
      rw [hj6] at H1
      have H' := Aside0.mk H1
      clear H H1
      have HP7 := Kd.R_putg HO8.out x16 t1
      have p5 : 0 ≤ x16 := i0
      have q5 : x16 < ((8 : Nat) : Int) := by omega
      obtain ⟨hx5_0, hf5_0⟩ := Kd.R_celln 0 HO8.out x16 p5 q5
      have q5i : x16 < 8 := c4
      replace p5 := eq_true p5
      replace q5 := eq_true q5
      replace q5i := eq_true q5i
      clear n1_ n2_
      go_wp2_with (first | ((with_reducible refine gate_callee (f := 71) rfl ?_); refine goesL_ (some 25) rfl rfl Try.func71 (by kernel_rfl) rfl #[.string (rdOf ByteArray.empty ws j6)] rfl (by (try simp only [List.map_toArray, List.map_cons, List.map_nil]); first | done | rfl | (go_simp; done) | simp) ?_; (with_reducible refine (impl_readDecimal.calls k1 _ t1 true _ A5.out).mono ?_); rintro e w_ ⟨rfl, ⟨nd, rfl⟩⟩; refine ⟨_, rfl, ?_⟩) | ((with_reducible refine gate_store (t := 2) (p := 33) rfl ?_); refine store_event (t := 2) (p := 33) (v := ?vo_w8) (w1 := (wr.drewN nd).setCell ⟨gb1, x16.toNat, none⟩ (.int .i64 t1)) ?hg ?ho ?hn ?hr ?_; (case ho => rfl); (case hg => rfl); (case hn => rfl); (case hr => first | (go_simp; done) | (go_simp; rfl)); intro w8 hw; have n0_ := Aside0.mk (put8 nd HP7.1 hw); have n1_ := Aside0.mk ((by rw [hw]; exact below_set (pw_below_drewN HBP.out nd) GEP.out : Below wp.heap.size wp w8)); clear HO8 HBP HP7; have HO8 := n0_; have HBP := n1_; clear n0_ n1_ hw))
      go_roundg k1
      case measure => have := HK1.out; omega
      case rel => exact ⟨ns.set x16.toNat t1, j6, (by first | rfl | (simp; done) | (simp [*]; done)), H', ⟨by have := HK1.out; omega⟩, ⟨by omega, by omega, by rw [List.length_set]; exact nl⟩, ⟨by (with_reducible repeat (first | apply rA | apply rN | apply rD)); exact HO8.out⟩, ⟨by repeat (first | (with_reducible first | exact HBP.out | apply lA | apply lN | apply lD) | exact HBP.out)⟩⟩
     ·
      replace c6 := Bool.eq_false_iff.mpr c6
      subst c6
      have H1 : (some ((⟨#[]⟩ : ByteArray), 0, 0, 0, 0, 0, 0, 0, 0, 6)) = some (r1, r2, r3, r4, r5, r6, r7, r8, r9, r10) := by rw [if_neg (show ¬ (false = true) by decide)] at H; exact H
      clear H
      have H := H1
      clear H1
      simp only [Option.some.injEq, Prod.mk.injEq] at H
      obtain ⟨rfl, rfl, rfl, rfl, rfl, rfl, rfl, rfl, rfl, rfl⟩ := H
      clear HB BK162
      have HB := n1_
      have BK162 := n2_
      clear n1_ n2_
      have hcz71_0 : wr.cell? ⟨gb162, 0, none⟩ = some (.string (⟨#[]⟩ : ByteArray)) := (blk_cell BK162.out 0).trans rfl
      have hcz71_1 : wr.cell? ⟨gb162, 1, none⟩ = some (.int .i64 0) := (blk_cell BK162.out 1).trans rfl
      have hcz71_2 : wr.cell? ⟨gb162, 2, none⟩ = some (.int .i64 0) := (blk_cell BK162.out 2).trans rfl
      have hcz71_3 : wr.cell? ⟨gb162, 3, none⟩ = some (.int .i64 0) := (blk_cell BK162.out 3).trans rfl
      have hcz71_4 : wr.cell? ⟨gb162, 4, none⟩ = some (.int .i64 0) := (blk_cell BK162.out 4).trans rfl
      have hcz71_5 : wr.cell? ⟨gb162, 5, none⟩ = some (.int .i64 0) := (blk_cell BK162.out 5).trans rfl
      have hcz71_6 : wr.cell? ⟨gb162, 6, none⟩ = some (.int .i64 0) := (blk_cell BK162.out 6).trans rfl
      have hcz71_7 : wr.cell? ⟨gb162, 7, none⟩ = some (.int .i64 0) := (blk_cell BK162.out 7).trans rfl
      have hcz71_8 : wr.cell? ⟨gb162, 8, none⟩ = some (.int .i64 0) := (blk_cell BK162.out 8).trans rfl
      have hfz71_0 := blk_frozen BK162.out 0
      have hfz71_1 := blk_frozen BK162.out 1
      have hfz71_2 := blk_frozen BK162.out 2
      have hfz71_3 := blk_frozen BK162.out 3
      have hfz71_4 := blk_frozen BK162.out 4
      have hfz71_5 := blk_frozen BK162.out 5
      have hfz71_6 := blk_frozen BK162.out 6
      have hfz71_7 := blk_frozen BK162.out 7
      have hfz71_8 := blk_frozen BK162.out 8
      go_wp2_with (first | ((with_reducible refine gate_callee (f := 71) rfl ?_); refine goesL_ (some 25) rfl rfl Try.func71 (by kernel_rfl) rfl #[.string (rdOf ByteArray.empty ws j6)] rfl (by (try simp only [List.map_toArray, List.map_cons, List.map_nil]); first | done | rfl | (go_simp; done) | simp) ?_; (with_reducible refine (impl_readDecimal.calls k1 _ t1 false _ A5.out).mono ?_); rintro e w_ ⟨rfl, ⟨nd, rfl⟩⟩; refine ⟨_, rfl, ?_⟩))
      refine bodyPost_ret (results_ct rfl _ _ gb162 26 #[.string (⟨#[]⟩ : ByteArray), .int .i64 0, .int .i64 0, .int .i64 0, .int .i64 0, .int .i64 0, .int .i64 0, .int .i64 0, .int .i64 0] (0, 0) _ rfl (by (with_reducible repeat first | apply bN | apply bD | apply bA); refine blk_put (cs := #[.string (⟨#[]⟩ : ByteArray), .int .i64 0, .int .i64 0, .int .i64 0, .int .i64 0, .int .i64 0, .int .i64 0, .int .i64 0, .int .i64 0]) ?_ 8 _ rfl; (with_reducible repeat first | apply bN | apply bD | apply bA); refine blk_put (cs := #[.string (⟨#[]⟩ : ByteArray), .int .i64 0, .int .i64 0, .int .i64 0, .int .i64 0, .int .i64 0, .int .i64 0, .int .i64 0, .int .i64 0]) ?_ 7 _ rfl; (with_reducible repeat first | apply bN | apply bD | apply bA); refine blk_put (cs := #[.string (⟨#[]⟩ : ByteArray), .int .i64 0, .int .i64 0, .int .i64 0, .int .i64 0, .int .i64 0, .int .i64 0, .int .i64 0, .int .i64 0]) ?_ 6 _ rfl; (with_reducible repeat first | apply bN | apply bD | apply bA); refine blk_put (cs := #[.string (⟨#[]⟩ : ByteArray), .int .i64 0, .int .i64 0, .int .i64 0, .int .i64 0, .int .i64 0, .int .i64 0, .int .i64 0, .int .i64 0]) ?_ 5 _ rfl; (with_reducible repeat first | apply bN | apply bD | apply bA); refine blk_put (cs := #[.string (⟨#[]⟩ : ByteArray), .int .i64 0, .int .i64 0, .int .i64 0, .int .i64 0, .int .i64 0, .int .i64 0, .int .i64 0, .int .i64 0]) ?_ 4 _ rfl; (with_reducible repeat first | apply bN | apply bD | apply bA); refine blk_put (cs := #[.string (⟨#[]⟩ : ByteArray), .int .i64 0, .int .i64 0, .int .i64 0, .int .i64 0, .int .i64 0, .int .i64 0, .int .i64 0, .int .i64 0]) ?_ 3 _ rfl; (with_reducible repeat first | apply bN | apply bD | apply bA); refine blk_put (cs := #[.string (⟨#[]⟩ : ByteArray), .int .i64 0, .int .i64 0, .int .i64 0, .int .i64 0, .int .i64 0, .int .i64 0, .int .i64 0, .int .i64 0]) ?_ 2 _ rfl; (with_reducible repeat first | apply bN | apply bD | apply bA); refine blk_put (cs := #[.string (⟨#[]⟩ : ByteArray), .int .i64 0, .int .i64 0, .int .i64 0, .int .i64 0, .int .i64 0, .int .i64 0, .int .i64 0, .int .i64 0]) ?_ 1 _ rfl; (with_reducible repeat first | apply bN | apply bD | apply bA); refine blk_put (cs := #[.string (⟨#[]⟩ : ByteArray), .int .i64 0, .int .i64 0, .int .i64 0, .int .i64 0, .int .i64 0, .int .i64 0, .int .i64 0, .int .i64 0]) ?_ 0 _ rfl; (with_reducible repeat first | apply bN | apply bD | apply bA); exact BK162.out) Try.underlying26 rfl (by kernel_rfl)) rfl ?_
      exact ⟨by first | rfl | (simp [errW_none, errW_some] <;> rfl) | (simp [*, errW_none, errW_some] <;> rfl), by repeat (first | (with_reducible first | exact HB.out | apply lA | apply lN | apply lD | refine below_set ?_ GE162.out) | exact HB.out)⟩
    ·
     rw [if_neg c4] at H
     have c4b0 : decide (x16 < 8) = false := decide_eq_false c4
     clear c4 HB BK162
     have HB := n1_
     have BK162 := n2_
     have GW162 := GE162
     clear n1_ n2_ HBP
     by_cases c4 : 0 < (ws.length : Int)
     ·
      rw [if_pos c4] at H
      have c4b0 : decide (0 < (ws.length : Int)) = true := decide_eq_true c4
      have c4b1 : decide (0 < ws.length) = true := decide_eq_true (by omega)
      clear c4
      by_cases c5 : 0 < (ns.length : Int)
      ·
       rw [if_pos c5] at H
       have c5b0 : decide (0 < (ns.length : Int)) = true := decide_eq_true c5
       have c5b1 : decide (0 < ns.length) = true := decide_eq_true (by omega)
       clear c5
       by_cases c6 : 1 < (ns.length : Int)
       ·
        rw [if_pos c6] at H
        have c6b0 : decide (1 < (ns.length : Int)) = true := decide_eq_true c6
        have c6b1 : decide (1 < ns.length) = true := decide_eq_true (by omega)
        clear c6
        by_cases c7 : 2 < (ns.length : Int)
        ·
         rw [if_pos c7] at H
         have c7b0 : decide (2 < (ns.length : Int)) = true := decide_eq_true c7
         have c7b1 : decide (2 < ns.length) = true := decide_eq_true (by omega)
         clear c7
         by_cases c8 : 3 < (ns.length : Int)
         ·
          rw [if_pos c8] at H
          have c8b0 : decide (3 < (ns.length : Int)) = true := decide_eq_true c8
          have c8b1 : decide (3 < ns.length) = true := decide_eq_true (by omega)
          clear c8
          by_cases c9 : 4 < (ns.length : Int)
          ·
           rw [if_pos c9] at H
           have c9b0 : decide (4 < (ns.length : Int)) = true := decide_eq_true c9
           have c9b1 : decide (4 < ns.length) = true := decide_eq_true (by omega)
           clear c9
           by_cases c10 : 5 < (ns.length : Int)
           ·
            rw [if_pos c10] at H
            have c10b0 : decide (5 < (ns.length : Int)) = true := decide_eq_true c10
            have c10b1 : decide (5 < ns.length) = true := decide_eq_true (by omega)
            clear c10
            by_cases c11 : 6 < (ns.length : Int)
            ·
             rw [if_pos c11] at H
             have c11b0 : decide (6 < (ns.length : Int)) = true := decide_eq_true c11
             have c11b1 : decide (6 < ns.length) = true := decide_eq_true (by omega)
             clear c11
             by_cases c12 : 7 < (ns.length : Int)
             ·
              rw [if_pos c12] at H
              have c12b0 : decide (7 < (ns.length : Int)) = true := decide_eq_true c12
              have c12b1 : decide (7 < ns.length) = true := decide_eq_true (by omega)
              clear c12
              replace H := Option.bind_eq_some_iff.mp H
              obtain ⟨t128, A130, H⟩ := H
              replace H : (if t128 = true then (some (rdOf ByteArray.empty ws 0, rd ns 0, rd ns 1, rd ns 2, rd ns 3, rd ns 4, rd ns 5, rd ns 6, rd ns 7, 0)) else (some ((⟨#[]⟩ : ByteArray), 0, 0, 0, 0, 0, 0, 0, 0, 6))) = some (r1, r2, r3, r4, r5, r6, r7, r8, r9, r10) := H
              have A13 := Aside0.mk A130
              clear A130
              by_cases c14 : t128 = true
              ·
               subst c14
               have H1 : (some (rdOf ByteArray.empty ws 0, rd ns 0, rd ns 1, rd ns 2, rd ns 3, rd ns 4, rd ns 5, rd ns 6, rd ns 7, 0)) = some (r1, r2, r3, r4, r5, r6, r7, r8, r9, r10) := by rw [if_pos rfl] at H; exact H
               clear H
               have H := H1
               clear H1
               simp only [Option.some.injEq, Prod.mk.injEq] at H
               obtain ⟨rfl, rfl, rfl, rfl, rfl, rfl, rfl, rfl, rfl, rfl⟩ := H
               go_wp2
               have HR1 := HPr
               have HR2 := Aside0.mk (Kd.R_reads' HO8.out).2.2
               clear HPr HO8
               generalize hN_ : (some (⟨gb1, 0, none⟩ : Addr)) = aN_ at HR2 ⊢
               have HBQ := Aside0.mk (below_drew1 (Below.refl wr.heap.size wr))
               have n0_ := Aside0.mk (blk_drew BK162.out)
               have n1_ := Aside0.mk (below_drew1 HB.out)
               clear BK162
               clear HB
               have BK162 := n0_
               have HB := n1_
               clear n0_ n1_
               have p118 : 0 ≤ (0 : Int) := (by omega)
               have q118 : 0 < (ws.length : Int) := of_decide_eq_true (by with_reducible assumption)
               obtain ⟨ad118, e118, hx118_0⟩ := Kd.at_string HR1.out 0 p118 q118
               have hw118_0 := hx118_0
               (try rw [show ((0 : Int)).toNat = 0 from rfl] at hw118_0)
               (try rw [show 0 * 1 = 0 from rfl] at hw118_0)
               (try rw [Addr.add_zero'] at hw118_0)
               cases e118
               have qi118 : (0 < ws.length) = True := eq_true (by omega)
               (try rw [show ((0 : Int)).toNat = 0 from rfl] at hx118_0)
               (try rw [Addr.add_zero'] at hx118_0)
               replace hx118_0 := (HBQ.out.cell (World.block_lt_of_cell? _ _ hx118_0)).trans hx118_0
               replace p118 := eq_true p118
               replace q118 := eq_true q118
               have p119 : 0 ≤ (0 : Int) := (by omega)
               have q119 : 0 < (ns.length : Int) := of_decide_eq_true (by with_reducible assumption)
               obtain ⟨ad119, e119, hx119_0⟩ := Kd.at_int HR2.out 0 p119 q119
               have hw119_0 := hx119_0
               (try rw [show ((0 : Int)).toNat = 0 from rfl] at hw119_0)
               (try rw [show 0 * 1 = 0 from rfl] at hw119_0)
               (try rw [Addr.add_zero'] at hw119_0)
               cases e119
               have qi119 : (0 < ns.length) = True := eq_true (by omega)
               (try rw [show ((0 : Int)).toNat = 0 from rfl] at hx119_0)
               (try rw [Addr.add_zero'] at hx119_0)
               replace hx119_0 := (HBQ.out.cell (World.block_lt_of_cell? _ _ hx119_0)).trans hx119_0
               replace p119 := eq_true p119
               replace q119 := eq_true q119
               have p120 : 0 ≤ (1 : Int) := (by omega)
               have q120 : 1 < (ns.length : Int) := of_decide_eq_true (by with_reducible assumption)
               obtain ⟨ad120, e120, hx120_0⟩ := Kd.at_int HR2.out 1 p120 q120
               have hw120_0 := hx120_0
               (try rw [show ((1 : Int)).toNat = 1 from rfl] at hw120_0)
               (try rw [show 1 * 1 = 1 from rfl] at hw120_0)
               (try simp only [Nat.reduceMul, Nat.reduceEqDiff, Go.Addr.add, ↓reduceIte] at hw120_0)
               obtain rfl : ad119 = ad120 := (by injection e120)
               (try simp only [show (1 : Int).toNat = 1 from rfl, Nat.reduceMul, Nat.reduceEqDiff, Go.Addr.add, ↓reduceIte] at hx120_0)
               have qi120 : (1 < ns.length) = True := eq_true (by omega)
               (try rw [show ((1 : Int)).toNat = 1 from rfl] at hx120_0)
               replace hx120_0 := (HBQ.out.cell (World.block_lt_of_cell? _ _ hx120_0)).trans hx120_0
               replace p120 := eq_true p120
               replace q120 := eq_true q120
               have p121 : 0 ≤ (2 : Int) := (by omega)
               have q121 : 2 < (ns.length : Int) := of_decide_eq_true (by with_reducible assumption)
               obtain ⟨ad121, e121, hx121_0⟩ := Kd.at_int HR2.out 2 p121 q121
               have hw121_0 := hx121_0
               (try rw [show ((2 : Int)).toNat = 2 from rfl] at hw121_0)
               (try rw [show 2 * 1 = 2 from rfl] at hw121_0)
               (try simp only [Nat.reduceMul, Nat.reduceEqDiff, Go.Addr.add, ↓reduceIte] at hw121_0)
               obtain rfl : ad119 = ad121 := (by injection e121)
               (try simp only [show (2 : Int).toNat = 2 from rfl, Nat.reduceMul, Nat.reduceEqDiff, Go.Addr.add, ↓reduceIte] at hx121_0)
               have qi121 : (2 < ns.length) = True := eq_true (by omega)
               (try rw [show ((2 : Int)).toNat = 2 from rfl] at hx121_0)
               replace hx121_0 := (HBQ.out.cell (World.block_lt_of_cell? _ _ hx121_0)).trans hx121_0
               replace p121 := eq_true p121
               replace q121 := eq_true q121
               have p122 : 0 ≤ (3 : Int) := (by omega)
               have q122 : 3 < (ns.length : Int) := of_decide_eq_true (by with_reducible assumption)
               obtain ⟨ad122, e122, hx122_0⟩ := Kd.at_int HR2.out 3 p122 q122
               have hw122_0 := hx122_0
               (try rw [show ((3 : Int)).toNat = 3 from rfl] at hw122_0)
               (try rw [show 3 * 1 = 3 from rfl] at hw122_0)
               (try simp only [Nat.reduceMul, Nat.reduceEqDiff, Go.Addr.add, ↓reduceIte] at hw122_0)
               obtain rfl : ad119 = ad122 := (by injection e122)
               (try simp only [show (3 : Int).toNat = 3 from rfl, Nat.reduceMul, Nat.reduceEqDiff, Go.Addr.add, ↓reduceIte] at hx122_0)
               have qi122 : (3 < ns.length) = True := eq_true (by omega)
               (try rw [show ((3 : Int)).toNat = 3 from rfl] at hx122_0)
               replace hx122_0 := (HBQ.out.cell (World.block_lt_of_cell? _ _ hx122_0)).trans hx122_0
               replace p122 := eq_true p122
               replace q122 := eq_true q122
               have p123 : 0 ≤ (4 : Int) := (by omega)
               have q123 : 4 < (ns.length : Int) := of_decide_eq_true (by with_reducible assumption)
               obtain ⟨ad123, e123, hx123_0⟩ := Kd.at_int HR2.out 4 p123 q123
               have hw123_0 := hx123_0
               (try rw [show ((4 : Int)).toNat = 4 from rfl] at hw123_0)
               (try rw [show 4 * 1 = 4 from rfl] at hw123_0)
               (try simp only [Nat.reduceMul, Nat.reduceEqDiff, Go.Addr.add, ↓reduceIte] at hw123_0)
               obtain rfl : ad119 = ad123 := (by injection e123)
               (try simp only [show (4 : Int).toNat = 4 from rfl, Nat.reduceMul, Nat.reduceEqDiff, Go.Addr.add, ↓reduceIte] at hx123_0)
               have qi123 : (4 < ns.length) = True := eq_true (by omega)
               (try rw [show ((4 : Int)).toNat = 4 from rfl] at hx123_0)
               replace hx123_0 := (HBQ.out.cell (World.block_lt_of_cell? _ _ hx123_0)).trans hx123_0
               replace p123 := eq_true p123
               replace q123 := eq_true q123
               have p124 : 0 ≤ (5 : Int) := (by omega)
               have q124 : 5 < (ns.length : Int) := of_decide_eq_true (by with_reducible assumption)
               obtain ⟨ad124, e124, hx124_0⟩ := Kd.at_int HR2.out 5 p124 q124
               have hw124_0 := hx124_0
               (try rw [show ((5 : Int)).toNat = 5 from rfl] at hw124_0)
               (try rw [show 5 * 1 = 5 from rfl] at hw124_0)
               (try simp only [Nat.reduceMul, Nat.reduceEqDiff, Go.Addr.add, ↓reduceIte] at hw124_0)
               obtain rfl : ad119 = ad124 := (by injection e124)
               (try simp only [show (5 : Int).toNat = 5 from rfl, Nat.reduceMul, Nat.reduceEqDiff, Go.Addr.add, ↓reduceIte] at hx124_0)
               have qi124 : (5 < ns.length) = True := eq_true (by omega)
               (try rw [show ((5 : Int)).toNat = 5 from rfl] at hx124_0)
               replace hx124_0 := (HBQ.out.cell (World.block_lt_of_cell? _ _ hx124_0)).trans hx124_0
               replace p124 := eq_true p124
               replace q124 := eq_true q124
               have p125 : 0 ≤ (6 : Int) := (by omega)
               have q125 : 6 < (ns.length : Int) := of_decide_eq_true (by with_reducible assumption)
               obtain ⟨ad125, e125, hx125_0⟩ := Kd.at_int HR2.out 6 p125 q125
               have hw125_0 := hx125_0
               (try rw [show ((6 : Int)).toNat = 6 from rfl] at hw125_0)
               (try rw [show 6 * 1 = 6 from rfl] at hw125_0)
               (try simp only [Nat.reduceMul, Nat.reduceEqDiff, Go.Addr.add, ↓reduceIte] at hw125_0)
               obtain rfl : ad119 = ad125 := (by injection e125)
               (try simp only [show (6 : Int).toNat = 6 from rfl, Nat.reduceMul, Nat.reduceEqDiff, Go.Addr.add, ↓reduceIte] at hx125_0)
               have qi125 : (6 < ns.length) = True := eq_true (by omega)
               (try rw [show ((6 : Int)).toNat = 6 from rfl] at hx125_0)
               replace hx125_0 := (HBQ.out.cell (World.block_lt_of_cell? _ _ hx125_0)).trans hx125_0
               replace p125 := eq_true p125
               replace q125 := eq_true q125
               have p126 : 0 ≤ (7 : Int) := (by omega)
               have q126 : 7 < (ns.length : Int) := of_decide_eq_true (by with_reducible assumption)
               obtain ⟨ad126, e126, hx126_0⟩ := Kd.at_int HR2.out 7 p126 q126
               have hw126_0 := hx126_0
               (try rw [show ((7 : Int)).toNat = 7 from rfl] at hw126_0)
               (try rw [show 7 * 1 = 7 from rfl] at hw126_0)
               (try simp only [Nat.reduceMul, Nat.reduceEqDiff, Go.Addr.add, ↓reduceIte] at hw126_0)
               obtain rfl : ad119 = ad126 := (by injection e126)
               (try simp only [show (7 : Int).toNat = 7 from rfl, Nat.reduceMul, Nat.reduceEqDiff, Go.Addr.add, ↓reduceIte] at hx126_0)
               have qi126 : (7 < ns.length) = True := eq_true (by omega)
               (try rw [show ((7 : Int)).toNat = 7 from rfl] at hx126_0)
               replace hx126_0 := (HBQ.out.cell (World.block_lt_of_cell? _ _ hx126_0)).trans hx126_0
               replace p126 := eq_true p126
               replace q126 := eq_true q126
               refine start_ (n := 22) (S := fun w' => w'.cell? ad118 = some (.string (rdOf ByteArray.empty ws 0)) ∧ w'.cell? ad119 = some (.int .i64 (rd ns 0)) ∧ w'.cell? ⟨ad119.block, ad119.off + 1, none⟩ = some (.int .i64 (rd ns 1)) ∧ w'.cell? ⟨ad119.block, ad119.off + 2, none⟩ = some (.int .i64 (rd ns 2)) ∧ w'.cell? ⟨ad119.block, ad119.off + 3, none⟩ = some (.int .i64 (rd ns 3)) ∧ w'.cell? ⟨ad119.block, ad119.off + 4, none⟩ = some (.int .i64 (rd ns 4)) ∧ w'.cell? ⟨ad119.block, ad119.off + 5, none⟩ = some (.int .i64 (rd ns 5)) ∧ w'.cell? ⟨ad119.block, ad119.off + 6, none⟩ = some (.int .i64 (rd ns 6)) ∧ w'.cell? ⟨ad119.block, ad119.off + 7, none⟩ = some (.int .i64 (rd ns 7))) (ds := []) #[false, false, false, false, false, false, false, false, false, false, false, false, false, false, false, false, false, false, false, false, false, false] (by kernel_rfl) rfl rfl ⟨((HBQ.out.cell (World.block_lt_of_cell? _ _ hw118_0)).trans hw118_0), ((HBQ.out.cell (World.block_lt_of_cell? _ _ hw119_0)).trans hw119_0), ((HBQ.out.cell (World.block_lt_of_cell? _ _ hw120_0)).trans hw120_0), ((HBQ.out.cell (World.block_lt_of_cell? _ _ hw121_0)).trans hw121_0), ((HBQ.out.cell (World.block_lt_of_cell? _ _ hw122_0)).trans hw122_0), ((HBQ.out.cell (World.block_lt_of_cell? _ _ hw123_0)).trans hw123_0), ((HBQ.out.cell (World.block_lt_of_cell? _ _ hw124_0)).trans hw124_0), ((HBQ.out.cell (World.block_lt_of_cell? _ _ hw125_0)).trans hw125_0), ((HBQ.out.cell (World.block_lt_of_cell? _ _ hw126_0)).trans hw126_0)⟩ (fun hHeld => ?_); refine with_tabW impl_ReadArticle.tab13 impl_ReadArticle.bits13 (fun HT_ HW_ => ?_)
               generalize wr.drew = w16 at BK162 HB HBQ hx118_0 hx119_0 hx120_0 hx121_0 hx122_0 hx123_0 hx124_0 hx125_0 hx126_0 hHeld ⊢
               refine pure_ (i := 0) (N := some 35) (v := ?_) (a' := ?_) #[true, false, false, false, false, false, false, false, false, false, false, false, false, false, false, false, false, false, false, false, false, false] rfl rfl (any_of HT_.out (by kernel_rfl)) (fun _ _ _ h => h) (Or.inl ⟨by rfl, ?_⟩) ?_ ?_
               rotate_left
               ·
                intro w'
                go_simp
                with_reducible rfl
               rotate_left
               ·
                simp only [Act.put, sT, s0, sS, i64_w, i32_w]
                rfl
               refine pure_ (i := 1) (N := some 36) (v := ?_) (a' := ?_) #[true, true, false, false, false, false, false, false, false, false, false, false, false, false, false, false, false, false, false, false, false, false] rfl rfl (any_of HT_.out (by kernel_rfl)) (fun _ _ _ h => h) (Or.inl ⟨by rfl, ?_⟩) ?_ ?_
               rotate_left
               ·
                intro w'
                go_simp
                with_reducible rfl
               rotate_left
               ·
                simp only [Act.put, sT, s0, sS, i64_w, i32_w]
                rfl
               refine pure_ (i := 3) (N := some 38) (v := ?_) (a' := ?_) #[true, true, false, true, false, false, false, false, false, false, false, false, false, false, false, false, false, false, false, false, false, false] rfl rfl (any_of HT_.out (by kernel_rfl)) (fun _ _ _ h => h) (Or.inl ⟨by rfl, ?_⟩) ?_ ?_
               rotate_left
               ·
                intro w'
                go_simp
                with_reducible rfl
               rotate_left
               ·
                simp only [Act.put, sT, s0, sS, i64_w, i32_w]
                rfl
               refine pure_ (i := 5) (N := some 40) (v := ?_) (a' := ?_) #[true, true, false, true, false, true, false, false, false, false, false, false, false, false, false, false, false, false, false, false, false, false] rfl rfl (any_of HT_.out (by kernel_rfl)) (fun _ _ _ h => h) (Or.inl ⟨by rfl, ?_⟩) ?_ ?_
               rotate_left
               ·
                intro w'
                go_simp
                with_reducible rfl
               rotate_left
               ·
                simp only [Act.put, sT, s0, sS, i64_w, i32_w]
                rfl
               refine pure_ (i := 7) (N := some 42) (v := ?_) (a' := ?_) #[true, true, false, true, false, true, false, true, false, false, false, false, false, false, false, false, false, false, false, false, false, false] rfl rfl (any_of HT_.out (by kernel_rfl)) (fun _ _ _ h => h) (Or.inl ⟨by rfl, ?_⟩) ?_ ?_
               rotate_left
               ·
                intro w'
                go_simp
                with_reducible rfl
               rotate_left
               ·
                simp only [Act.put, sT, s0, sS, i64_w, i32_w]
                rfl
               refine pure_ (i := 9) (N := some 44) (v := ?_) (a' := ?_) #[true, true, false, true, false, true, false, true, false, true, false, false, false, false, false, false, false, false, false, false, false, false] rfl rfl (any_of HT_.out (by kernel_rfl)) (fun _ _ _ h => h) (Or.inl ⟨by rfl, ?_⟩) ?_ ?_
               rotate_left
               ·
                intro w'
                go_simp
                with_reducible rfl
               rotate_left
               ·
                simp only [Act.put, sT, s0, sS, i64_w, i32_w]
                rfl
               refine pure_ (i := 11) (N := some 46) (v := ?_) (a' := ?_) #[true, true, false, true, false, true, false, true, false, true, false, true, false, false, false, false, false, false, false, false, false, false] rfl rfl (any_of HT_.out (by kernel_rfl)) (fun _ _ _ h => h) (Or.inl ⟨by rfl, ?_⟩) ?_ ?_
               rotate_left
               ·
                intro w'
                go_simp
                with_reducible rfl
               rotate_left
               ·
                simp only [Act.put, sT, s0, sS, i64_w, i32_w]
                rfl
               refine pure_ (i := 13) (N := some 48) (v := ?_) (a' := ?_) #[true, true, false, true, false, true, false, true, false, true, false, true, false, true, false, false, false, false, false, false, false, false] rfl rfl (any_of HT_.out (by kernel_rfl)) (fun _ _ _ h => h) (Or.inl ⟨by rfl, ?_⟩) ?_ ?_
               rotate_left
               ·
                intro w'
                go_simp
                with_reducible rfl
               rotate_left
               ·
                simp only [Act.put, sT, s0, sS, i64_w, i32_w]
                rfl
               refine pure_ (i := 15) (N := some 50) (v := ?_) (a' := ?_) #[true, true, false, true, false, true, false, true, false, true, false, true, false, true, false, true, false, false, false, false, false, false] rfl rfl (any_of HT_.out (by kernel_rfl)) (fun _ _ _ h => h) (Or.inl ⟨by rfl, ?_⟩) ?_ ?_
               rotate_left
               ·
                intro w'
                go_simp
                with_reducible rfl
               rotate_left
               ·
                simp only [Act.put, sT, s0, sS, i64_w, i32_w]
                rfl
               refine pure_ (i := 17) (N := some 52) (v := ?_) (a' := ?_) #[true, true, false, true, false, true, false, true, false, true, false, true, false, true, false, true, false, true, false, false, false, false] rfl rfl (any_of HT_.out (by kernel_rfl)) (fun _ _ _ h => h) (Or.inl ⟨by rfl, ?_⟩) ?_ ?_
               rotate_left
               ·
                intro w'
                go_simp
                with_reducible rfl
               rotate_left
               ·
                simp only [Act.put, sT, s0, sS, i64_w, i32_w]
                rfl
               refine take_ (i := 2) (N := some 37) (v := ?_) (a' := ?_) #[true, true, true, true, false, true, false, true, false, true, false, true, false, true, false, true, false, true, false, false, false, false] rfl rfl (take_ofW HT_.out HW_.out (by kernel_rfl)) (fun _ _ _ h => h) (Or.inl ⟨by rfl, ?_⟩) hHeld ?_ ?_
               rotate_left
               ·
                rintro w' ⟨s0, s1, s2, s3, s4, s5, s6, s7, s8⟩
                go_simp
                with_reducible rfl
               rotate_left
               ·
                simp only [Act.put, sT, s0, sS, i64_w, i32_w]
                rfl
               refine take_ (i := 4) (N := some 39) (v := ?_) (a' := ?_) #[true, true, true, true, true, true, false, true, false, true, false, true, false, true, false, true, false, true, false, false, false, false] rfl rfl (take_ofW HT_.out HW_.out (by kernel_rfl)) (fun _ _ _ h => h) (Or.inl ⟨by rfl, ?_⟩) hHeld ?_ ?_
               rotate_left
               ·
                rintro w' ⟨s0, s1, s2, s3, s4, s5, s6, s7, s8⟩
                go_simp
                with_reducible rfl
               rotate_left
               ·
                simp only [Act.put, sT, s0, sS, i64_w, i32_w]
                rfl
               refine take_ (i := 6) (N := some 41) (v := ?_) (a' := ?_) #[true, true, true, true, true, true, true, true, false, true, false, true, false, true, false, true, false, true, false, false, false, false] rfl rfl (take_ofW HT_.out HW_.out (by kernel_rfl)) (fun _ _ _ h => h) (Or.inl ⟨by rfl, ?_⟩) hHeld ?_ ?_
               rotate_left
               ·
                rintro w' ⟨s0, s1, s2, s3, s4, s5, s6, s7, s8⟩
                go_simp
                with_reducible rfl
               rotate_left
               ·
                simp only [Act.put, sT, s0, sS, i64_w, i32_w]
                rfl
               refine take_ (i := 8) (N := some 43) (v := ?_) (a' := ?_) #[true, true, true, true, true, true, true, true, true, true, false, true, false, true, false, true, false, true, false, false, false, false] rfl rfl (take_ofW HT_.out HW_.out (by kernel_rfl)) (fun _ _ _ h => h) (Or.inl ⟨by rfl, ?_⟩) hHeld ?_ ?_
               rotate_left
               ·
                rintro w' ⟨s0, s1, s2, s3, s4, s5, s6, s7, s8⟩
                go_simp
                with_reducible rfl
               rotate_left
               ·
                simp only [Act.put, sT, s0, sS, i64_w, i32_w]
                rfl
               refine take_ (i := 10) (N := some 45) (v := ?_) (a' := ?_) #[true, true, true, true, true, true, true, true, true, true, true, true, false, true, false, true, false, true, false, false, false, false] rfl rfl (take_ofW HT_.out HW_.out (by kernel_rfl)) (fun _ _ _ h => h) (Or.inl ⟨by rfl, ?_⟩) hHeld ?_ ?_
               rotate_left
               ·
                rintro w' ⟨s0, s1, s2, s3, s4, s5, s6, s7, s8⟩
                go_simp
                with_reducible rfl
               rotate_left
               ·
                simp only [Act.put, sT, s0, sS, i64_w, i32_w]
                rfl
               refine take_ (i := 12) (N := some 47) (v := ?_) (a' := ?_) #[true, true, true, true, true, true, true, true, true, true, true, true, true, true, false, true, false, true, false, false, false, false] rfl rfl (take_ofW HT_.out HW_.out (by kernel_rfl)) (fun _ _ _ h => h) (Or.inl ⟨by rfl, ?_⟩) hHeld ?_ ?_
               rotate_left
               ·
                rintro w' ⟨s0, s1, s2, s3, s4, s5, s6, s7, s8⟩
                go_simp
                with_reducible rfl
               rotate_left
               ·
                simp only [Act.put, sT, s0, sS, i64_w, i32_w]
                rfl
               refine take_ (i := 14) (N := some 49) (v := ?_) (a' := ?_) #[true, true, true, true, true, true, true, true, true, true, true, true, true, true, true, true, false, true, false, false, false, false] rfl rfl (take_ofW HT_.out HW_.out (by kernel_rfl)) (fun _ _ _ h => h) (Or.inl ⟨by rfl, ?_⟩) hHeld ?_ ?_
               rotate_left
               ·
                rintro w' ⟨s0, s1, s2, s3, s4, s5, s6, s7, s8⟩
                go_simp
                with_reducible rfl
               rotate_left
               ·
                simp only [Act.put, sT, s0, sS, i64_w, i32_w]
                rfl
               refine take_ (i := 16) (N := some 51) (v := ?_) (a' := ?_) #[true, true, true, true, true, true, true, true, true, true, true, true, true, true, true, true, true, true, false, false, false, false] rfl rfl (take_ofW HT_.out HW_.out (by kernel_rfl)) (fun _ _ _ h => h) (Or.inl ⟨by rfl, ?_⟩) hHeld ?_ ?_
               rotate_left
               ·
                rintro w' ⟨s0, s1, s2, s3, s4, s5, s6, s7, s8⟩
                go_simp
                with_reducible rfl
               rotate_left
               ·
                simp only [Act.put, sT, s0, sS, i64_w, i32_w]
                rfl
               refine take_ (i := 18) (N := some 53) (v := ?_) (a' := ?_) #[true, true, true, true, true, true, true, true, true, true, true, true, true, true, true, true, true, true, true, false, false, false] rfl rfl (take_ofW HT_.out HW_.out (by kernel_rfl)) (fun _ _ _ h => h) (Or.inl ⟨by rfl, ?_⟩) hHeld ?_ ?_
               rotate_left
               ·
                rintro w' ⟨s0, s1, s2, s3, s4, s5, s6, s7, s8⟩
                go_simp
                with_reducible rfl
               rotate_left
               ·
                simp only [Act.put, sT, s0, sS, i64_w, i32_w]
                rfl
               refine pure_ (i := 19) (N := some 54) (v := ?_) (a' := ?_) #[true, true, true, true, true, true, true, true, true, true, true, true, true, true, true, true, true, true, true, true, false, false] rfl rfl (any_of HT_.out (by kernel_rfl)) (fun _ _ _ h => h) (Or.inl ⟨by rfl, ?_⟩) ?_ ?_
               rotate_left
               ·
                intro w'
                go_simp
                with_reducible rfl
               rotate_left
               ·
                simp only [Act.put, sT, s0, sS, i64_w, i32_w]
                rfl
               refine one_ (i := 20) (N := some 9) #[true, true, true, true, true, true, true, true, true, true, true, true, true, true, true, true, true, true, true, true, true, false] rfl rfl (one_of HT_.out (by kernel_rfl)) (by decide) (fun K hK => ?_)
               refine box_step ?hg (N := 9) ?hd (cs := #[.string (⟨#[]⟩ : ByteArray), .int .i64 0, .int .i64 0, .int .i64 0, .int .i64 0, .int .i64 0, .int .i64 0, .int .i64 0, .int .i64 0]) (t := 26) ?hr ?_; (case hd => rfl); (case hg => rfl); (case hr => first | (go_simp; done) | (go_simp; rfl))
               intro gb127 hg w17 hbox hb
               have n0_ := Aside0.mk (blk_below (g := gb162) (o := .cells #[.string (⟨#[]⟩ : ByteArray), .int .i64 0, .int .i64 0, .int .i64 0, .int .i64 0, .int .i64 0, .int .i64 0, .int .i64 0, .int .i64 0] 26 (0, 0)) (by (with_reducible repeat first | apply bN | apply bD | apply bA); exact BK162.out) hb)
               have n1_ := Aside0.mk (below_step (by repeat (first | (with_reducible first | exact HB.out | apply lA | apply lN | apply lD | refine below_set ?_ GE162.out) | exact HB.out)) hb)
               have n2_ := Aside0.mk (hbox)
               have n3_ := Aside0.mk ((by rw [hg]; exact (below_size (by repeat (first | (with_reducible first | exact HBQ.out | apply lA | apply lN | apply lD | refine below_set ?_ GE162.out) | exact HBQ.out))) : wr.heap.size ≤ gb127))
               have nq_ := Aside0.mk (below_step (by repeat (first | (with_reducible first | exact HBQ.out | apply lA | apply lN | apply lD) | exact HBQ.out)) hb)
               have n4_ := Aside0.mk ((by rw [hg]; exact (below_size (by repeat (first | (with_reducible first | exact HB.out | apply lA | apply lN | apply lD | refine below_set ?_ GE162.out) | exact HB.out))) : w.heap.size ≤ gb127))
               have n5_ := Aside0.mk ((by rw [hg]; exact Nat.ne_of_lt (blk_lt (g := gb162) (o := .cells #[.string (⟨#[]⟩ : ByteArray), .int .i64 0, .int .i64 0, .int .i64 0, .int .i64 0, .int .i64 0, .int .i64 0, .int .i64 0, .int .i64 0] 26 (0, 0)) (by (with_reducible repeat first | apply bN | apply bD | apply bA); exact BK162.out)) : gb162 ≠ gb127))
               have n6_ := Aside0.mk ((by rw [hg]; exact Nat.ne_of_gt (blk_lt (g := gb162) (o := .cells #[.string (⟨#[]⟩ : ByteArray), .int .i64 0, .int .i64 0, .int .i64 0, .int .i64 0, .int .i64 0, .int .i64 0, .int .i64 0, .int .i64 0] 26 (0, 0)) (by (with_reducible repeat first | apply bN | apply bD | apply bA); exact BK162.out)) : gb127 ≠ gb162))
               clear BK162
               clear HB
               have BK162 := n0_
               have HB := n1_
               clear HBQ
               have HBQ := nq_
               clear nq_
               have BK127 := n2_
               have GW127 := n3_
               have GE127 := n4_
               have NB162_127 := n5_
               have NB127_162 := n6_
               clear n0_ n1_ n2_ n3_ n4_ n5_ n6_
               clear hb hbox hg
               refine hK.out _ _ ⟨((HBQ.out.cell (World.block_lt_of_cell? _ _ hw118_0)).trans hw118_0), ((HBQ.out.cell (World.block_lt_of_cell? _ _ hw119_0)).trans hw119_0), ((HBQ.out.cell (World.block_lt_of_cell? _ _ hw120_0)).trans hw120_0), ((HBQ.out.cell (World.block_lt_of_cell? _ _ hw121_0)).trans hw121_0), ((HBQ.out.cell (World.block_lt_of_cell? _ _ hw122_0)).trans hw122_0), ((HBQ.out.cell (World.block_lt_of_cell? _ _ hw123_0)).trans hw123_0), ((HBQ.out.cell (World.block_lt_of_cell? _ _ hw124_0)).trans hw124_0), ((HBQ.out.cell (World.block_lt_of_cell? _ _ hw125_0)).trans hw125_0), ((HBQ.out.cell (World.block_lt_of_cell? _ _ hw126_0)).trans hw126_0)⟩ (fun hHeld => ?_)
               clear hK K
               refine norm_ (a' := ?_) ?_ ?_
               rotate_left
               ·
                show Act.put _ (some 9) _ = _
                simp only [Act.put, sT, s0, sS, i64_w, i32_w]
                rfl
               refine one_ (i := 21) (N := none) #[true, true, true, true, true, true, true, true, true, true, true, true, true, true, true, true, true, true, true, true, true, true] rfl rfl (one_of HT_.out (by kernel_rfl)) (by decide) (fun K hK => ?_)
               have hs18 : w17.cell? ⟨gb127, 0, none⟩ = some (.string (⟨#[]⟩ : ByteArray)) := (blk_cell BK127.out 0).trans rfl
               have hfs18 := blk_frozen BK127.out 0
               have hns18_0 := NB162_127.out
               have hms18_0 := NB127_162.out
               have hs19 : w17.cell? ⟨gb127, 1, none⟩ = some (.int .i64 0) := (blk_cell BK127.out 1).trans rfl
               have hfs19 := blk_frozen BK127.out 1
               have hns19_0 := NB162_127.out
               have hms19_0 := NB127_162.out
               have hs20 : w17.cell? ⟨gb127, 2, none⟩ = some (.int .i64 0) := (blk_cell BK127.out 2).trans rfl
               have hfs20 := blk_frozen BK127.out 2
               have hns20_0 := NB162_127.out
               have hms20_0 := NB127_162.out
               have hs21 : w17.cell? ⟨gb127, 3, none⟩ = some (.int .i64 0) := (blk_cell BK127.out 3).trans rfl
               have hfs21 := blk_frozen BK127.out 3
               have hns21_0 := NB162_127.out
               have hms21_0 := NB127_162.out
               have hs22 : w17.cell? ⟨gb127, 4, none⟩ = some (.int .i64 0) := (blk_cell BK127.out 4).trans rfl
               have hfs22 := blk_frozen BK127.out 4
               have hns22_0 := NB162_127.out
               have hms22_0 := NB127_162.out
               have hs23 : w17.cell? ⟨gb127, 5, none⟩ = some (.int .i64 0) := (blk_cell BK127.out 5).trans rfl
               have hfs23 := blk_frozen BK127.out 5
               have hns23_0 := NB162_127.out
               have hms23_0 := NB127_162.out
               have hs24 : w17.cell? ⟨gb127, 6, none⟩ = some (.int .i64 0) := (blk_cell BK127.out 6).trans rfl
               have hfs24 := blk_frozen BK127.out 6
               have hns24_0 := NB162_127.out
               have hms24_0 := NB127_162.out
               have hs25 : w17.cell? ⟨gb127, 7, none⟩ = some (.int .i64 0) := (blk_cell BK127.out 7).trans rfl
               have hfs25 := blk_frozen BK127.out 7
               have hns25_0 := NB162_127.out
               have hms25_0 := NB127_162.out
               have hs26 : w17.cell? ⟨gb127, 8, none⟩ = some (.int .i64 0) := (blk_cell BK127.out 8).trans rfl
               have hfs26 := blk_frozen BK127.out 8
               have hns26_0 := NB162_127.out
               have hms26_0 := NB127_162.out
               refine skip_ (w1 := ?_) (by rfl) rfl ?_ ?_
               rotate_left
               ·
                go_simp
                rfl
               refine hK.out _ _ ⟨((cf9 (by first | exact Nat.ne_of_lt (Nat.lt_of_lt_of_le (by have := World.block_lt_of_cell? _ _ hw118_0; first | rwa [add_block] at this | exact this) GW127.out) | (rw [add_block]; exact Nat.ne_of_lt (Nat.lt_of_lt_of_le (by have := World.block_lt_of_cell? _ _ hw118_0; first | rwa [add_block] at this | exact this) GW127.out)) | (show (Addr.add _ _).block ≠ _; rw [add_block]; exact Nat.ne_of_lt (Nat.lt_of_lt_of_le (by have := World.block_lt_of_cell? _ _ hw118_0; first | rwa [add_block] at this | exact this) GW127.out)) | (dsimp only; exact Nat.ne_of_lt (Nat.lt_of_lt_of_le (by have := World.block_lt_of_cell? _ _ hw118_0; first | rwa [add_block] at this | exact this) GW127.out))) _ _ _ _ _ _ _ _ _).trans (hHeld.1)), ((cf9 (by first | exact Nat.ne_of_lt (Nat.lt_of_lt_of_le (by have := World.block_lt_of_cell? _ _ hw119_0; first | rwa [add_block] at this | exact this) GW127.out) | (rw [add_block]; exact Nat.ne_of_lt (Nat.lt_of_lt_of_le (by have := World.block_lt_of_cell? _ _ hw119_0; first | rwa [add_block] at this | exact this) GW127.out)) | (show (Addr.add _ _).block ≠ _; rw [add_block]; exact Nat.ne_of_lt (Nat.lt_of_lt_of_le (by have := World.block_lt_of_cell? _ _ hw119_0; first | rwa [add_block] at this | exact this) GW127.out)) | (dsimp only; exact Nat.ne_of_lt (Nat.lt_of_lt_of_le (by have := World.block_lt_of_cell? _ _ hw119_0; first | rwa [add_block] at this | exact this) GW127.out))) _ _ _ _ _ _ _ _ _).trans (hHeld.2.1)), ((cf9 (by first | exact Nat.ne_of_lt (Nat.lt_of_lt_of_le (by have := World.block_lt_of_cell? _ _ hw120_0; first | rwa [add_block] at this | exact this) GW127.out) | (rw [add_block]; exact Nat.ne_of_lt (Nat.lt_of_lt_of_le (by have := World.block_lt_of_cell? _ _ hw120_0; first | rwa [add_block] at this | exact this) GW127.out)) | (show (Addr.add _ _).block ≠ _; rw [add_block]; exact Nat.ne_of_lt (Nat.lt_of_lt_of_le (by have := World.block_lt_of_cell? _ _ hw120_0; first | rwa [add_block] at this | exact this) GW127.out)) | (dsimp only; exact Nat.ne_of_lt (Nat.lt_of_lt_of_le (by have := World.block_lt_of_cell? _ _ hw120_0; first | rwa [add_block] at this | exact this) GW127.out))) _ _ _ _ _ _ _ _ _).trans (hHeld.2.2.1)), ((cf9 (by first | exact Nat.ne_of_lt (Nat.lt_of_lt_of_le (by have := World.block_lt_of_cell? _ _ hw121_0; first | rwa [add_block] at this | exact this) GW127.out) | (rw [add_block]; exact Nat.ne_of_lt (Nat.lt_of_lt_of_le (by have := World.block_lt_of_cell? _ _ hw121_0; first | rwa [add_block] at this | exact this) GW127.out)) | (show (Addr.add _ _).block ≠ _; rw [add_block]; exact Nat.ne_of_lt (Nat.lt_of_lt_of_le (by have := World.block_lt_of_cell? _ _ hw121_0; first | rwa [add_block] at this | exact this) GW127.out)) | (dsimp only; exact Nat.ne_of_lt (Nat.lt_of_lt_of_le (by have := World.block_lt_of_cell? _ _ hw121_0; first | rwa [add_block] at this | exact this) GW127.out))) _ _ _ _ _ _ _ _ _).trans (hHeld.2.2.2.1)), ((cf9 (by first | exact Nat.ne_of_lt (Nat.lt_of_lt_of_le (by have := World.block_lt_of_cell? _ _ hw122_0; first | rwa [add_block] at this | exact this) GW127.out) | (rw [add_block]; exact Nat.ne_of_lt (Nat.lt_of_lt_of_le (by have := World.block_lt_of_cell? _ _ hw122_0; first | rwa [add_block] at this | exact this) GW127.out)) | (show (Addr.add _ _).block ≠ _; rw [add_block]; exact Nat.ne_of_lt (Nat.lt_of_lt_of_le (by have := World.block_lt_of_cell? _ _ hw122_0; first | rwa [add_block] at this | exact this) GW127.out)) | (dsimp only; exact Nat.ne_of_lt (Nat.lt_of_lt_of_le (by have := World.block_lt_of_cell? _ _ hw122_0; first | rwa [add_block] at this | exact this) GW127.out))) _ _ _ _ _ _ _ _ _).trans (hHeld.2.2.2.2.1)), ((cf9 (by first | exact Nat.ne_of_lt (Nat.lt_of_lt_of_le (by have := World.block_lt_of_cell? _ _ hw123_0; first | rwa [add_block] at this | exact this) GW127.out) | (rw [add_block]; exact Nat.ne_of_lt (Nat.lt_of_lt_of_le (by have := World.block_lt_of_cell? _ _ hw123_0; first | rwa [add_block] at this | exact this) GW127.out)) | (show (Addr.add _ _).block ≠ _; rw [add_block]; exact Nat.ne_of_lt (Nat.lt_of_lt_of_le (by have := World.block_lt_of_cell? _ _ hw123_0; first | rwa [add_block] at this | exact this) GW127.out)) | (dsimp only; exact Nat.ne_of_lt (Nat.lt_of_lt_of_le (by have := World.block_lt_of_cell? _ _ hw123_0; first | rwa [add_block] at this | exact this) GW127.out))) _ _ _ _ _ _ _ _ _).trans (hHeld.2.2.2.2.2.1)), ((cf9 (by first | exact Nat.ne_of_lt (Nat.lt_of_lt_of_le (by have := World.block_lt_of_cell? _ _ hw124_0; first | rwa [add_block] at this | exact this) GW127.out) | (rw [add_block]; exact Nat.ne_of_lt (Nat.lt_of_lt_of_le (by have := World.block_lt_of_cell? _ _ hw124_0; first | rwa [add_block] at this | exact this) GW127.out)) | (show (Addr.add _ _).block ≠ _; rw [add_block]; exact Nat.ne_of_lt (Nat.lt_of_lt_of_le (by have := World.block_lt_of_cell? _ _ hw124_0; first | rwa [add_block] at this | exact this) GW127.out)) | (dsimp only; exact Nat.ne_of_lt (Nat.lt_of_lt_of_le (by have := World.block_lt_of_cell? _ _ hw124_0; first | rwa [add_block] at this | exact this) GW127.out))) _ _ _ _ _ _ _ _ _).trans (hHeld.2.2.2.2.2.2.1)), ((cf9 (by first | exact Nat.ne_of_lt (Nat.lt_of_lt_of_le (by have := World.block_lt_of_cell? _ _ hw125_0; first | rwa [add_block] at this | exact this) GW127.out) | (rw [add_block]; exact Nat.ne_of_lt (Nat.lt_of_lt_of_le (by have := World.block_lt_of_cell? _ _ hw125_0; first | rwa [add_block] at this | exact this) GW127.out)) | (show (Addr.add _ _).block ≠ _; rw [add_block]; exact Nat.ne_of_lt (Nat.lt_of_lt_of_le (by have := World.block_lt_of_cell? _ _ hw125_0; first | rwa [add_block] at this | exact this) GW127.out)) | (dsimp only; exact Nat.ne_of_lt (Nat.lt_of_lt_of_le (by have := World.block_lt_of_cell? _ _ hw125_0; first | rwa [add_block] at this | exact this) GW127.out))) _ _ _ _ _ _ _ _ _).trans (hHeld.2.2.2.2.2.2.2.1)), ((cf9 (by first | exact Nat.ne_of_lt (Nat.lt_of_lt_of_le (by have := World.block_lt_of_cell? _ _ hw126_0; first | rwa [add_block] at this | exact this) GW127.out) | (rw [add_block]; exact Nat.ne_of_lt (Nat.lt_of_lt_of_le (by have := World.block_lt_of_cell? _ _ hw126_0; first | rwa [add_block] at this | exact this) GW127.out)) | (show (Addr.add _ _).block ≠ _; rw [add_block]; exact Nat.ne_of_lt (Nat.lt_of_lt_of_le (by have := World.block_lt_of_cell? _ _ hw126_0; first | rwa [add_block] at this | exact this) GW127.out)) | (dsimp only; exact Nat.ne_of_lt (Nat.lt_of_lt_of_le (by have := World.block_lt_of_cell? _ _ hw126_0; first | rwa [add_block] at this | exact this) GW127.out))) _ _ _ _ _ _ _ _ _).trans (hHeld.2.2.2.2.2.2.2.2))⟩ (fun hHeld => ?_)
               clear hK K
               refine done_ (done_of HT_.out (by kernel_rfl)) ?_
               have hnb27 := NB127_162.out
               have hnc27 := NB162_127.out
               have hcz28_0 : w17.cell? ⟨gb127, 0, none⟩ = some (.string (⟨#[]⟩ : ByteArray)) := (blk_cell BK127.out 0).trans rfl
               have hcz28_1 : w17.cell? ⟨gb127, 1, none⟩ = some (.int .i64 0) := (blk_cell BK127.out 1).trans rfl
               have hcz28_2 : w17.cell? ⟨gb127, 2, none⟩ = some (.int .i64 0) := (blk_cell BK127.out 2).trans rfl
               have hcz28_3 : w17.cell? ⟨gb127, 3, none⟩ = some (.int .i64 0) := (blk_cell BK127.out 3).trans rfl
               have hcz28_4 : w17.cell? ⟨gb127, 4, none⟩ = some (.int .i64 0) := (blk_cell BK127.out 4).trans rfl
               have hcz28_5 : w17.cell? ⟨gb127, 5, none⟩ = some (.int .i64 0) := (blk_cell BK127.out 5).trans rfl
               have hcz28_6 : w17.cell? ⟨gb127, 6, none⟩ = some (.int .i64 0) := (blk_cell BK127.out 6).trans rfl
               have hcz28_7 : w17.cell? ⟨gb127, 7, none⟩ = some (.int .i64 0) := (blk_cell BK127.out 7).trans rfl
               have hcz28_8 : w17.cell? ⟨gb127, 8, none⟩ = some (.int .i64 0) := (blk_cell BK127.out 8).trans rfl
               have hfz28_0 := blk_frozen BK127.out 0
               have hfz28_1 := blk_frozen BK127.out 1
               have hfz28_2 := blk_frozen BK127.out 2
               have hfz28_3 := blk_frozen BK127.out 3
               have hfz28_4 := blk_frozen BK127.out 4
               have hfz28_5 := blk_frozen BK127.out 5
               have hfz28_6 := blk_frozen BK127.out 6
               have hfz28_7 := blk_frozen BK127.out 7
               have hfz28_8 := blk_frozen BK127.out 8
               try go_wp2_with (first | ((with_reducible refine gate_callee (f := 18) rfl ?_); refine goesL_ (some 56) rfl rfl Try.func18 (by kernel_rfl) rfl #[.agg #[.string (rdOf ByteArray.empty ws 0), .int .i64 (rd ns 0), .int .i64 (rd ns 1), .int .i64 (rd ns 2), .int .i64 (rd ns 3), .int .i64 (rd ns 4), .int .i64 (rd ns 5), .int .i64 (rd ns 6), .int .i64 (rd ns 7)]] rfl (by (try simp only [List.map_toArray, List.map_cons, List.map_nil]); first | done | rfl | (go_simp; done) | simp) ?_; (with_reducible refine (impl_IsArticle.calls k1 (rdOf ByteArray.empty ws 0) (rd ns 0) (rd ns 1) (rd ns 2) (rd ns 3) (rd ns 4) (rd ns 5) (rd ns 6) (rd ns 7) true _ A13.out).mono ?_); rintro e w29 ⟨rfl, hb⟩; refine ⟨_, rfl, ?_⟩; have n0_ := Aside0.mk (blk_below (g := gb162) (o := .cells #[.string (⟨#[]⟩ : ByteArray), .int .i64 0, .int .i64 0, .int .i64 0, .int .i64 0, .int .i64 0, .int .i64 0, .int .i64 0, .int .i64 0] 26 (0, 0)) (by (with_reducible repeat first | apply bN | apply bD | apply bA); refine blk_far ?_ NB162_127.out _; (with_reducible repeat first | apply bN | apply bD | apply bA); refine blk_far ?_ NB162_127.out _; (with_reducible repeat first | apply bN | apply bD | apply bA); refine blk_far ?_ NB162_127.out _; (with_reducible repeat first | apply bN | apply bD | apply bA); refine blk_far ?_ NB162_127.out _; (with_reducible repeat first | apply bN | apply bD | apply bA); refine blk_far ?_ NB162_127.out _; (with_reducible repeat first | apply bN | apply bD | apply bA); refine blk_far ?_ NB162_127.out _; (with_reducible repeat first | apply bN | apply bD | apply bA); refine blk_far ?_ NB162_127.out _; (with_reducible repeat first | apply bN | apply bD | apply bA); refine blk_far ?_ NB162_127.out _; (with_reducible repeat first | apply bN | apply bD | apply bA); refine blk_far ?_ NB162_127.out _; (with_reducible repeat first | apply bN | apply bD | apply bA); exact BK162.out) hb); have n1_ := Aside0.mk (blk_below (g := gb127) (o := .cells #[.string (rdOf ByteArray.empty ws 0), .int .i64 (rd ns 0), .int .i64 (rd ns 1), .int .i64 (rd ns 2), .int .i64 (rd ns 3), .int .i64 (rd ns 4), .int .i64 (rd ns 5), .int .i64 (rd ns 6), .int .i64 (rd ns 7)] 26 (0, 0)) (by (with_reducible repeat first | apply bN | apply bD | apply bA); refine blk_put (cs := #[.string (rdOf ByteArray.empty ws 0), .int .i64 (rd ns 0), .int .i64 (rd ns 1), .int .i64 (rd ns 2), .int .i64 (rd ns 3), .int .i64 (rd ns 4), .int .i64 (rd ns 5), .int .i64 (rd ns 6), .int .i64 0]) ?_ 8 _ rfl; (with_reducible repeat first | apply bN | apply bD | apply bA); refine blk_put (cs := #[.string (rdOf ByteArray.empty ws 0), .int .i64 (rd ns 0), .int .i64 (rd ns 1), .int .i64 (rd ns 2), .int .i64 (rd ns 3), .int .i64 (rd ns 4), .int .i64 (rd ns 5), .int .i64 0, .int .i64 0]) ?_ 7 _ rfl; (with_reducible repeat first | apply bN | apply bD | apply bA); refine blk_put (cs := #[.string (rdOf ByteArray.empty ws 0), .int .i64 (rd ns 0), .int .i64 (rd ns 1), .int .i64 (rd ns 2), .int .i64 (rd ns 3), .int .i64 (rd ns 4), .int .i64 0, .int .i64 0, .int .i64 0]) ?_ 6 _ rfl; (with_reducible repeat first | apply bN | apply bD | apply bA); refine blk_put (cs := #[.string (rdOf ByteArray.empty ws 0), .int .i64 (rd ns 0), .int .i64 (rd ns 1), .int .i64 (rd ns 2), .int .i64 (rd ns 3), .int .i64 0, .int .i64 0, .int .i64 0, .int .i64 0]) ?_ 5 _ rfl; (with_reducible repeat first | apply bN | apply bD | apply bA); refine blk_put (cs := #[.string (rdOf ByteArray.empty ws 0), .int .i64 (rd ns 0), .int .i64 (rd ns 1), .int .i64 (rd ns 2), .int .i64 0, .int .i64 0, .int .i64 0, .int .i64 0, .int .i64 0]) ?_ 4 _ rfl; (with_reducible repeat first | apply bN | apply bD | apply bA); refine blk_put (cs := #[.string (rdOf ByteArray.empty ws 0), .int .i64 (rd ns 0), .int .i64 (rd ns 1), .int .i64 0, .int .i64 0, .int .i64 0, .int .i64 0, .int .i64 0, .int .i64 0]) ?_ 3 _ rfl; (with_reducible repeat first | apply bN | apply bD | apply bA); refine blk_put (cs := #[.string (rdOf ByteArray.empty ws 0), .int .i64 (rd ns 0), .int .i64 0, .int .i64 0, .int .i64 0, .int .i64 0, .int .i64 0, .int .i64 0, .int .i64 0]) ?_ 2 _ rfl; (with_reducible repeat first | apply bN | apply bD | apply bA); refine blk_put (cs := #[.string (rdOf ByteArray.empty ws 0), .int .i64 0, .int .i64 0, .int .i64 0, .int .i64 0, .int .i64 0, .int .i64 0, .int .i64 0, .int .i64 0]) ?_ 1 _ rfl; (with_reducible repeat first | apply bN | apply bD | apply bA); refine blk_put (cs := #[.string (⟨#[]⟩ : ByteArray), .int .i64 0, .int .i64 0, .int .i64 0, .int .i64 0, .int .i64 0, .int .i64 0, .int .i64 0, .int .i64 0]) ?_ 0 _ rfl; (with_reducible repeat first | apply bN | apply bD | apply bA); exact BK127.out) hb); have n2_ := Aside0.mk (below_step (by repeat (first | (with_reducible first | exact HB.out | apply lA | apply lN | apply lD | refine below_set ?_ GE162.out | refine below_set ?_ GE127.out) | exact HB.out)) hb); clear BK162; clear BK127; clear HB; have BK162 := n0_; have BK127 := n1_; have HB := n2_; clear n0_ n1_ n2_; (try clear hb); (try clear hb2); (try clear hk); (try clear hi); have hcz30_0 : w29.cell? ⟨gb127, 0, none⟩ = some (.string (rdOf ByteArray.empty ws 0)) := (blk_cell BK127.out 0).trans rfl; have hcz30_1 : w29.cell? ⟨gb127, 1, none⟩ = some (.int .i64 (rd ns 0)) := (blk_cell BK127.out 1).trans rfl; have hcz30_2 : w29.cell? ⟨gb127, 2, none⟩ = some (.int .i64 (rd ns 1)) := (blk_cell BK127.out 2).trans rfl; have hcz30_3 : w29.cell? ⟨gb127, 3, none⟩ = some (.int .i64 (rd ns 2)) := (blk_cell BK127.out 3).trans rfl; have hcz30_4 : w29.cell? ⟨gb127, 4, none⟩ = some (.int .i64 (rd ns 3)) := (blk_cell BK127.out 4).trans rfl; have hcz30_5 : w29.cell? ⟨gb127, 5, none⟩ = some (.int .i64 (rd ns 4)) := (blk_cell BK127.out 5).trans rfl; have hcz30_6 : w29.cell? ⟨gb127, 6, none⟩ = some (.int .i64 (rd ns 5)) := (blk_cell BK127.out 6).trans rfl; have hcz30_7 : w29.cell? ⟨gb127, 7, none⟩ = some (.int .i64 (rd ns 6)) := (blk_cell BK127.out 7).trans rfl; have hcz30_8 : w29.cell? ⟨gb127, 8, none⟩ = some (.int .i64 (rd ns 7)) := (blk_cell BK127.out 8).trans rfl; have hfz30_0 := blk_frozen BK127.out 0; have hfz30_1 := blk_frozen BK127.out 1; have hfz30_2 := blk_frozen BK127.out 2; have hfz30_3 := blk_frozen BK127.out 3; have hfz30_4 := blk_frozen BK127.out 4; have hfz30_5 := blk_frozen BK127.out 5; have hfz30_6 := blk_frozen BK127.out 6; have hfz30_7 := blk_frozen BK127.out 7; have hfz30_8 := blk_frozen BK127.out 8; have hcz31_0 : w29.cell? ⟨gb162, 0, none⟩ = some (.string (⟨#[]⟩ : ByteArray)) := (blk_cell BK162.out 0).trans rfl; have hcz31_1 : w29.cell? ⟨gb162, 1, none⟩ = some (.int .i64 0) := (blk_cell BK162.out 1).trans rfl; have hcz31_2 : w29.cell? ⟨gb162, 2, none⟩ = some (.int .i64 0) := (blk_cell BK162.out 2).trans rfl; have hcz31_3 : w29.cell? ⟨gb162, 3, none⟩ = some (.int .i64 0) := (blk_cell BK162.out 3).trans rfl; have hcz31_4 : w29.cell? ⟨gb162, 4, none⟩ = some (.int .i64 0) := (blk_cell BK162.out 4).trans rfl; have hcz31_5 : w29.cell? ⟨gb162, 5, none⟩ = some (.int .i64 0) := (blk_cell BK162.out 5).trans rfl; have hcz31_6 : w29.cell? ⟨gb162, 6, none⟩ = some (.int .i64 0) := (blk_cell BK162.out 6).trans rfl; have hcz31_7 : w29.cell? ⟨gb162, 7, none⟩ = some (.int .i64 0) := (blk_cell BK162.out 7).trans rfl; have hcz31_8 : w29.cell? ⟨gb162, 8, none⟩ = some (.int .i64 0) := (blk_cell BK162.out 8).trans rfl; have hfz31_0 := blk_frozen BK162.out 0; have hfz31_1 := blk_frozen BK162.out 1; have hfz31_2 := blk_frozen BK162.out 2; have hfz31_3 := blk_frozen BK162.out 3; have hfz31_4 := blk_frozen BK162.out 4; have hfz31_5 := blk_frozen BK162.out 5; have hfz31_6 := blk_frozen BK162.out 6; have hfz31_7 := blk_frozen BK162.out 7; have hfz31_8 := blk_frozen BK162.out 8))
               refine bodyPost_ret (results_ct rfl _ _ gb162 26 #[.string (rdOf ByteArray.empty ws 0), .int .i64 (rd ns 0), .int .i64 (rd ns 1), .int .i64 (rd ns 2), .int .i64 (rd ns 3), .int .i64 (rd ns 4), .int .i64 (rd ns 5), .int .i64 (rd ns 6), .int .i64 (rd ns 7)] (0, 0) _ rfl (by (with_reducible repeat first | apply bN | apply bD | apply bA); refine blk_put (cs := #[.string (rdOf ByteArray.empty ws 0), .int .i64 (rd ns 0), .int .i64 (rd ns 1), .int .i64 (rd ns 2), .int .i64 (rd ns 3), .int .i64 (rd ns 4), .int .i64 (rd ns 5), .int .i64 (rd ns 6), .int .i64 0]) ?_ 8 _ rfl; (with_reducible repeat first | apply bN | apply bD | apply bA); refine blk_put (cs := #[.string (rdOf ByteArray.empty ws 0), .int .i64 (rd ns 0), .int .i64 (rd ns 1), .int .i64 (rd ns 2), .int .i64 (rd ns 3), .int .i64 (rd ns 4), .int .i64 (rd ns 5), .int .i64 0, .int .i64 0]) ?_ 7 _ rfl; (with_reducible repeat first | apply bN | apply bD | apply bA); refine blk_put (cs := #[.string (rdOf ByteArray.empty ws 0), .int .i64 (rd ns 0), .int .i64 (rd ns 1), .int .i64 (rd ns 2), .int .i64 (rd ns 3), .int .i64 (rd ns 4), .int .i64 0, .int .i64 0, .int .i64 0]) ?_ 6 _ rfl; (with_reducible repeat first | apply bN | apply bD | apply bA); refine blk_put (cs := #[.string (rdOf ByteArray.empty ws 0), .int .i64 (rd ns 0), .int .i64 (rd ns 1), .int .i64 (rd ns 2), .int .i64 (rd ns 3), .int .i64 0, .int .i64 0, .int .i64 0, .int .i64 0]) ?_ 5 _ rfl; (with_reducible repeat first | apply bN | apply bD | apply bA); refine blk_put (cs := #[.string (rdOf ByteArray.empty ws 0), .int .i64 (rd ns 0), .int .i64 (rd ns 1), .int .i64 (rd ns 2), .int .i64 0, .int .i64 0, .int .i64 0, .int .i64 0, .int .i64 0]) ?_ 4 _ rfl; (with_reducible repeat first | apply bN | apply bD | apply bA); refine blk_put (cs := #[.string (rdOf ByteArray.empty ws 0), .int .i64 (rd ns 0), .int .i64 (rd ns 1), .int .i64 0, .int .i64 0, .int .i64 0, .int .i64 0, .int .i64 0, .int .i64 0]) ?_ 3 _ rfl; (with_reducible repeat first | apply bN | apply bD | apply bA); refine blk_put (cs := #[.string (rdOf ByteArray.empty ws 0), .int .i64 (rd ns 0), .int .i64 0, .int .i64 0, .int .i64 0, .int .i64 0, .int .i64 0, .int .i64 0, .int .i64 0]) ?_ 2 _ rfl; (with_reducible repeat first | apply bN | apply bD | apply bA); refine blk_put (cs := #[.string (rdOf ByteArray.empty ws 0), .int .i64 0, .int .i64 0, .int .i64 0, .int .i64 0, .int .i64 0, .int .i64 0, .int .i64 0, .int .i64 0]) ?_ 1 _ rfl; (with_reducible repeat first | apply bN | apply bD | apply bA); refine blk_put (cs := #[.string (⟨#[]⟩ : ByteArray), .int .i64 0, .int .i64 0, .int .i64 0, .int .i64 0, .int .i64 0, .int .i64 0, .int .i64 0, .int .i64 0]) ?_ 0 _ rfl; (with_reducible repeat first | apply bN | apply bD | apply bA); exact BK162.out) Try.underlying26 rfl (by kernel_rfl)) rfl ?_
               exact ⟨by first | rfl | (simp [errW_none, errW_some] <;> rfl) | (simp [*, errW_none, errW_some] <;> rfl), by repeat (first | (with_reducible first | exact HB.out | apply lA | apply lN | apply lD | refine below_set ?_ GE162.out | refine below_set ?_ GE127.out) | exact HB.out)⟩
              ·
               replace c14 := Bool.eq_false_iff.mpr c14
               subst c14
               have H1 : (some ((⟨#[]⟩ : ByteArray), 0, 0, 0, 0, 0, 0, 0, 0, 6)) = some (r1, r2, r3, r4, r5, r6, r7, r8, r9, r10) := by rw [if_neg (show ¬ (false = true) by decide)] at H; exact H
               clear H
               have H := H1
               clear H1
               simp only [Option.some.injEq, Prod.mk.injEq] at H
               obtain ⟨rfl, rfl, rfl, rfl, rfl, rfl, rfl, rfl, rfl, rfl⟩ := H
               go_wp2
               have HR1 := HPr
               have HR2 := Aside0.mk (Kd.R_reads' HO8.out).2.2
               clear HPr HO8
               generalize hN_ : (some (⟨gb1, 0, none⟩ : Addr)) = aN_ at HR2 ⊢
               have HBQ := Aside0.mk (below_drew1 (Below.refl wr.heap.size wr))
               have n0_ := Aside0.mk (blk_drew BK162.out)
               have n1_ := Aside0.mk (below_drew1 HB.out)
               clear BK162
               clear HB
               have BK162 := n0_
               have HB := n1_
               clear n0_ n1_
               have p118 : 0 ≤ (0 : Int) := (by omega)
               have q118 : 0 < (ws.length : Int) := of_decide_eq_true (by with_reducible assumption)
               obtain ⟨ad118, e118, hx118_0⟩ := Kd.at_string HR1.out 0 p118 q118
               have hw118_0 := hx118_0
               (try rw [show ((0 : Int)).toNat = 0 from rfl] at hw118_0)
               (try rw [show 0 * 1 = 0 from rfl] at hw118_0)
               (try rw [Addr.add_zero'] at hw118_0)
               cases e118
               have qi118 : (0 < ws.length) = True := eq_true (by omega)
               (try rw [show ((0 : Int)).toNat = 0 from rfl] at hx118_0)
               (try rw [Addr.add_zero'] at hx118_0)
               replace hx118_0 := (HBQ.out.cell (World.block_lt_of_cell? _ _ hx118_0)).trans hx118_0
               replace p118 := eq_true p118
               replace q118 := eq_true q118
               have p119 : 0 ≤ (0 : Int) := (by omega)
               have q119 : 0 < (ns.length : Int) := of_decide_eq_true (by with_reducible assumption)
               obtain ⟨ad119, e119, hx119_0⟩ := Kd.at_int HR2.out 0 p119 q119
               have hw119_0 := hx119_0
               (try rw [show ((0 : Int)).toNat = 0 from rfl] at hw119_0)
               (try rw [show 0 * 1 = 0 from rfl] at hw119_0)
               (try rw [Addr.add_zero'] at hw119_0)
               cases e119
               have qi119 : (0 < ns.length) = True := eq_true (by omega)
               (try rw [show ((0 : Int)).toNat = 0 from rfl] at hx119_0)
               (try rw [Addr.add_zero'] at hx119_0)
               replace hx119_0 := (HBQ.out.cell (World.block_lt_of_cell? _ _ hx119_0)).trans hx119_0
               replace p119 := eq_true p119
               replace q119 := eq_true q119
               have p120 : 0 ≤ (1 : Int) := (by omega)
               have q120 : 1 < (ns.length : Int) := of_decide_eq_true (by with_reducible assumption)
               obtain ⟨ad120, e120, hx120_0⟩ := Kd.at_int HR2.out 1 p120 q120
               have hw120_0 := hx120_0
               (try rw [show ((1 : Int)).toNat = 1 from rfl] at hw120_0)
               (try rw [show 1 * 1 = 1 from rfl] at hw120_0)
               (try simp only [Nat.reduceMul, Nat.reduceEqDiff, Go.Addr.add, ↓reduceIte] at hw120_0)
               obtain rfl : ad119 = ad120 := (by injection e120)
               (try simp only [show (1 : Int).toNat = 1 from rfl, Nat.reduceMul, Nat.reduceEqDiff, Go.Addr.add, ↓reduceIte] at hx120_0)
               have qi120 : (1 < ns.length) = True := eq_true (by omega)
               (try rw [show ((1 : Int)).toNat = 1 from rfl] at hx120_0)
               replace hx120_0 := (HBQ.out.cell (World.block_lt_of_cell? _ _ hx120_0)).trans hx120_0
               replace p120 := eq_true p120
               replace q120 := eq_true q120
               have p121 : 0 ≤ (2 : Int) := (by omega)
               have q121 : 2 < (ns.length : Int) := of_decide_eq_true (by with_reducible assumption)
               obtain ⟨ad121, e121, hx121_0⟩ := Kd.at_int HR2.out 2 p121 q121
               have hw121_0 := hx121_0
               (try rw [show ((2 : Int)).toNat = 2 from rfl] at hw121_0)
               (try rw [show 2 * 1 = 2 from rfl] at hw121_0)
               (try simp only [Nat.reduceMul, Nat.reduceEqDiff, Go.Addr.add, ↓reduceIte] at hw121_0)
               obtain rfl : ad119 = ad121 := (by injection e121)
               (try simp only [show (2 : Int).toNat = 2 from rfl, Nat.reduceMul, Nat.reduceEqDiff, Go.Addr.add, ↓reduceIte] at hx121_0)
               have qi121 : (2 < ns.length) = True := eq_true (by omega)
               (try rw [show ((2 : Int)).toNat = 2 from rfl] at hx121_0)
               replace hx121_0 := (HBQ.out.cell (World.block_lt_of_cell? _ _ hx121_0)).trans hx121_0
               replace p121 := eq_true p121
               replace q121 := eq_true q121
               have p122 : 0 ≤ (3 : Int) := (by omega)
               have q122 : 3 < (ns.length : Int) := of_decide_eq_true (by with_reducible assumption)
               obtain ⟨ad122, e122, hx122_0⟩ := Kd.at_int HR2.out 3 p122 q122
               have hw122_0 := hx122_0
               (try rw [show ((3 : Int)).toNat = 3 from rfl] at hw122_0)
               (try rw [show 3 * 1 = 3 from rfl] at hw122_0)
               (try simp only [Nat.reduceMul, Nat.reduceEqDiff, Go.Addr.add, ↓reduceIte] at hw122_0)
               obtain rfl : ad119 = ad122 := (by injection e122)
               (try simp only [show (3 : Int).toNat = 3 from rfl, Nat.reduceMul, Nat.reduceEqDiff, Go.Addr.add, ↓reduceIte] at hx122_0)
               have qi122 : (3 < ns.length) = True := eq_true (by omega)
               (try rw [show ((3 : Int)).toNat = 3 from rfl] at hx122_0)
               replace hx122_0 := (HBQ.out.cell (World.block_lt_of_cell? _ _ hx122_0)).trans hx122_0
               replace p122 := eq_true p122
               replace q122 := eq_true q122
               have p123 : 0 ≤ (4 : Int) := (by omega)
               have q123 : 4 < (ns.length : Int) := of_decide_eq_true (by with_reducible assumption)
               obtain ⟨ad123, e123, hx123_0⟩ := Kd.at_int HR2.out 4 p123 q123
               have hw123_0 := hx123_0
               (try rw [show ((4 : Int)).toNat = 4 from rfl] at hw123_0)
               (try rw [show 4 * 1 = 4 from rfl] at hw123_0)
               (try simp only [Nat.reduceMul, Nat.reduceEqDiff, Go.Addr.add, ↓reduceIte] at hw123_0)
               obtain rfl : ad119 = ad123 := (by injection e123)
               (try simp only [show (4 : Int).toNat = 4 from rfl, Nat.reduceMul, Nat.reduceEqDiff, Go.Addr.add, ↓reduceIte] at hx123_0)
               have qi123 : (4 < ns.length) = True := eq_true (by omega)
               (try rw [show ((4 : Int)).toNat = 4 from rfl] at hx123_0)
               replace hx123_0 := (HBQ.out.cell (World.block_lt_of_cell? _ _ hx123_0)).trans hx123_0
               replace p123 := eq_true p123
               replace q123 := eq_true q123
               have p124 : 0 ≤ (5 : Int) := (by omega)
               have q124 : 5 < (ns.length : Int) := of_decide_eq_true (by with_reducible assumption)
               obtain ⟨ad124, e124, hx124_0⟩ := Kd.at_int HR2.out 5 p124 q124
               have hw124_0 := hx124_0
               (try rw [show ((5 : Int)).toNat = 5 from rfl] at hw124_0)
               (try rw [show 5 * 1 = 5 from rfl] at hw124_0)
               (try simp only [Nat.reduceMul, Nat.reduceEqDiff, Go.Addr.add, ↓reduceIte] at hw124_0)
               obtain rfl : ad119 = ad124 := (by injection e124)
               (try simp only [show (5 : Int).toNat = 5 from rfl, Nat.reduceMul, Nat.reduceEqDiff, Go.Addr.add, ↓reduceIte] at hx124_0)
               have qi124 : (5 < ns.length) = True := eq_true (by omega)
               (try rw [show ((5 : Int)).toNat = 5 from rfl] at hx124_0)
               replace hx124_0 := (HBQ.out.cell (World.block_lt_of_cell? _ _ hx124_0)).trans hx124_0
               replace p124 := eq_true p124
               replace q124 := eq_true q124
               have p125 : 0 ≤ (6 : Int) := (by omega)
               have q125 : 6 < (ns.length : Int) := of_decide_eq_true (by with_reducible assumption)
               obtain ⟨ad125, e125, hx125_0⟩ := Kd.at_int HR2.out 6 p125 q125
               have hw125_0 := hx125_0
               (try rw [show ((6 : Int)).toNat = 6 from rfl] at hw125_0)
               (try rw [show 6 * 1 = 6 from rfl] at hw125_0)
               (try simp only [Nat.reduceMul, Nat.reduceEqDiff, Go.Addr.add, ↓reduceIte] at hw125_0)
               obtain rfl : ad119 = ad125 := (by injection e125)
               (try simp only [show (6 : Int).toNat = 6 from rfl, Nat.reduceMul, Nat.reduceEqDiff, Go.Addr.add, ↓reduceIte] at hx125_0)
               have qi125 : (6 < ns.length) = True := eq_true (by omega)
               (try rw [show ((6 : Int)).toNat = 6 from rfl] at hx125_0)
               replace hx125_0 := (HBQ.out.cell (World.block_lt_of_cell? _ _ hx125_0)).trans hx125_0
               replace p125 := eq_true p125
               replace q125 := eq_true q125
               have p126 : 0 ≤ (7 : Int) := (by omega)
               have q126 : 7 < (ns.length : Int) := of_decide_eq_true (by with_reducible assumption)
               obtain ⟨ad126, e126, hx126_0⟩ := Kd.at_int HR2.out 7 p126 q126
               have hw126_0 := hx126_0
               (try rw [show ((7 : Int)).toNat = 7 from rfl] at hw126_0)
               (try rw [show 7 * 1 = 7 from rfl] at hw126_0)
               (try simp only [Nat.reduceMul, Nat.reduceEqDiff, Go.Addr.add, ↓reduceIte] at hw126_0)
               obtain rfl : ad119 = ad126 := (by injection e126)
               (try simp only [show (7 : Int).toNat = 7 from rfl, Nat.reduceMul, Nat.reduceEqDiff, Go.Addr.add, ↓reduceIte] at hx126_0)
               have qi126 : (7 < ns.length) = True := eq_true (by omega)
               (try rw [show ((7 : Int)).toNat = 7 from rfl] at hx126_0)
               replace hx126_0 := (HBQ.out.cell (World.block_lt_of_cell? _ _ hx126_0)).trans hx126_0
               replace p126 := eq_true p126
               replace q126 := eq_true q126
               refine start_ (n := 22) (S := fun w' => w'.cell? ad118 = some (.string (rdOf ByteArray.empty ws 0)) ∧ w'.cell? ad119 = some (.int .i64 (rd ns 0)) ∧ w'.cell? ⟨ad119.block, ad119.off + 1, none⟩ = some (.int .i64 (rd ns 1)) ∧ w'.cell? ⟨ad119.block, ad119.off + 2, none⟩ = some (.int .i64 (rd ns 2)) ∧ w'.cell? ⟨ad119.block, ad119.off + 3, none⟩ = some (.int .i64 (rd ns 3)) ∧ w'.cell? ⟨ad119.block, ad119.off + 4, none⟩ = some (.int .i64 (rd ns 4)) ∧ w'.cell? ⟨ad119.block, ad119.off + 5, none⟩ = some (.int .i64 (rd ns 5)) ∧ w'.cell? ⟨ad119.block, ad119.off + 6, none⟩ = some (.int .i64 (rd ns 6)) ∧ w'.cell? ⟨ad119.block, ad119.off + 7, none⟩ = some (.int .i64 (rd ns 7))) (ds := []) #[false, false, false, false, false, false, false, false, false, false, false, false, false, false, false, false, false, false, false, false, false, false] (by kernel_rfl) rfl rfl ⟨((HBQ.out.cell (World.block_lt_of_cell? _ _ hw118_0)).trans hw118_0), ((HBQ.out.cell (World.block_lt_of_cell? _ _ hw119_0)).trans hw119_0), ((HBQ.out.cell (World.block_lt_of_cell? _ _ hw120_0)).trans hw120_0), ((HBQ.out.cell (World.block_lt_of_cell? _ _ hw121_0)).trans hw121_0), ((HBQ.out.cell (World.block_lt_of_cell? _ _ hw122_0)).trans hw122_0), ((HBQ.out.cell (World.block_lt_of_cell? _ _ hw123_0)).trans hw123_0), ((HBQ.out.cell (World.block_lt_of_cell? _ _ hw124_0)).trans hw124_0), ((HBQ.out.cell (World.block_lt_of_cell? _ _ hw125_0)).trans hw125_0), ((HBQ.out.cell (World.block_lt_of_cell? _ _ hw126_0)).trans hw126_0)⟩ (fun hHeld => ?_); refine with_tabW impl_ReadArticle.tab13 impl_ReadArticle.bits13 (fun HT_ HW_ => ?_)
               generalize wr.drew = w33 at BK162 HB HBQ hx118_0 hx119_0 hx120_0 hx121_0 hx122_0 hx123_0 hx124_0 hx125_0 hx126_0 hHeld ⊢
               refine pure_ (i := 0) (N := some 35) (v := ?_) (a' := ?_) #[true, false, false, false, false, false, false, false, false, false, false, false, false, false, false, false, false, false, false, false, false, false] rfl rfl (any_of HT_.out (by kernel_rfl)) (fun _ _ _ h => h) (Or.inl ⟨by rfl, ?_⟩) ?_ ?_
               rotate_left
               ·
                intro w'
                go_simp
                with_reducible rfl
               rotate_left
               ·
                simp only [Act.put, sT, s0, sS, i64_w, i32_w]
                rfl
               refine pure_ (i := 1) (N := some 36) (v := ?_) (a' := ?_) #[true, true, false, false, false, false, false, false, false, false, false, false, false, false, false, false, false, false, false, false, false, false] rfl rfl (any_of HT_.out (by kernel_rfl)) (fun _ _ _ h => h) (Or.inl ⟨by rfl, ?_⟩) ?_ ?_
               rotate_left
               ·
                intro w'
                go_simp
                with_reducible rfl
               rotate_left
               ·
                simp only [Act.put, sT, s0, sS, i64_w, i32_w]
                rfl
               refine pure_ (i := 3) (N := some 38) (v := ?_) (a' := ?_) #[true, true, false, true, false, false, false, false, false, false, false, false, false, false, false, false, false, false, false, false, false, false] rfl rfl (any_of HT_.out (by kernel_rfl)) (fun _ _ _ h => h) (Or.inl ⟨by rfl, ?_⟩) ?_ ?_
               rotate_left
               ·
                intro w'
                go_simp
                with_reducible rfl
               rotate_left
               ·
                simp only [Act.put, sT, s0, sS, i64_w, i32_w]
                rfl
               refine pure_ (i := 5) (N := some 40) (v := ?_) (a' := ?_) #[true, true, false, true, false, true, false, false, false, false, false, false, false, false, false, false, false, false, false, false, false, false] rfl rfl (any_of HT_.out (by kernel_rfl)) (fun _ _ _ h => h) (Or.inl ⟨by rfl, ?_⟩) ?_ ?_
               rotate_left
               ·
                intro w'
                go_simp
                with_reducible rfl
               rotate_left
               ·
                simp only [Act.put, sT, s0, sS, i64_w, i32_w]
                rfl
               refine pure_ (i := 7) (N := some 42) (v := ?_) (a' := ?_) #[true, true, false, true, false, true, false, true, false, false, false, false, false, false, false, false, false, false, false, false, false, false] rfl rfl (any_of HT_.out (by kernel_rfl)) (fun _ _ _ h => h) (Or.inl ⟨by rfl, ?_⟩) ?_ ?_
               rotate_left
               ·
                intro w'
                go_simp
                with_reducible rfl
               rotate_left
               ·
                simp only [Act.put, sT, s0, sS, i64_w, i32_w]
                rfl
               refine pure_ (i := 9) (N := some 44) (v := ?_) (a' := ?_) #[true, true, false, true, false, true, false, true, false, true, false, false, false, false, false, false, false, false, false, false, false, false] rfl rfl (any_of HT_.out (by kernel_rfl)) (fun _ _ _ h => h) (Or.inl ⟨by rfl, ?_⟩) ?_ ?_
               rotate_left
               ·
                intro w'
                go_simp
                with_reducible rfl
               rotate_left
               ·
                simp only [Act.put, sT, s0, sS, i64_w, i32_w]
                rfl
               refine pure_ (i := 11) (N := some 46) (v := ?_) (a' := ?_) #[true, true, false, true, false, true, false, true, false, true, false, true, false, false, false, false, false, false, false, false, false, false] rfl rfl (any_of HT_.out (by kernel_rfl)) (fun _ _ _ h => h) (Or.inl ⟨by rfl, ?_⟩) ?_ ?_
               rotate_left
               ·
                intro w'
                go_simp
                with_reducible rfl
               rotate_left
               ·
                simp only [Act.put, sT, s0, sS, i64_w, i32_w]
                rfl
               refine pure_ (i := 13) (N := some 48) (v := ?_) (a' := ?_) #[true, true, false, true, false, true, false, true, false, true, false, true, false, true, false, false, false, false, false, false, false, false] rfl rfl (any_of HT_.out (by kernel_rfl)) (fun _ _ _ h => h) (Or.inl ⟨by rfl, ?_⟩) ?_ ?_
               rotate_left
               ·
                intro w'
                go_simp
                with_reducible rfl
               rotate_left
               ·
                simp only [Act.put, sT, s0, sS, i64_w, i32_w]
                rfl
               refine pure_ (i := 15) (N := some 50) (v := ?_) (a' := ?_) #[true, true, false, true, false, true, false, true, false, true, false, true, false, true, false, true, false, false, false, false, false, false] rfl rfl (any_of HT_.out (by kernel_rfl)) (fun _ _ _ h => h) (Or.inl ⟨by rfl, ?_⟩) ?_ ?_
               rotate_left
               ·
                intro w'
                go_simp
                with_reducible rfl
               rotate_left
               ·
                simp only [Act.put, sT, s0, sS, i64_w, i32_w]
                rfl
               refine pure_ (i := 17) (N := some 52) (v := ?_) (a' := ?_) #[true, true, false, true, false, true, false, true, false, true, false, true, false, true, false, true, false, true, false, false, false, false] rfl rfl (any_of HT_.out (by kernel_rfl)) (fun _ _ _ h => h) (Or.inl ⟨by rfl, ?_⟩) ?_ ?_
               rotate_left
               ·
                intro w'
                go_simp
                with_reducible rfl
               rotate_left
               ·
                simp only [Act.put, sT, s0, sS, i64_w, i32_w]
                rfl
               refine take_ (i := 2) (N := some 37) (v := ?_) (a' := ?_) #[true, true, true, true, false, true, false, true, false, true, false, true, false, true, false, true, false, true, false, false, false, false] rfl rfl (take_ofW HT_.out HW_.out (by kernel_rfl)) (fun _ _ _ h => h) (Or.inl ⟨by rfl, ?_⟩) hHeld ?_ ?_
               rotate_left
               ·
                rintro w' ⟨s0, s1, s2, s3, s4, s5, s6, s7, s8⟩
                go_simp
                with_reducible rfl
               rotate_left
               ·
                simp only [Act.put, sT, s0, sS, i64_w, i32_w]
                rfl
               refine take_ (i := 4) (N := some 39) (v := ?_) (a' := ?_) #[true, true, true, true, true, true, false, true, false, true, false, true, false, true, false, true, false, true, false, false, false, false] rfl rfl (take_ofW HT_.out HW_.out (by kernel_rfl)) (fun _ _ _ h => h) (Or.inl ⟨by rfl, ?_⟩) hHeld ?_ ?_
               rotate_left
               ·
                rintro w' ⟨s0, s1, s2, s3, s4, s5, s6, s7, s8⟩
                go_simp
                with_reducible rfl
               rotate_left
               ·
                simp only [Act.put, sT, s0, sS, i64_w, i32_w]
                rfl
               refine take_ (i := 6) (N := some 41) (v := ?_) (a' := ?_) #[true, true, true, true, true, true, true, true, false, true, false, true, false, true, false, true, false, true, false, false, false, false] rfl rfl (take_ofW HT_.out HW_.out (by kernel_rfl)) (fun _ _ _ h => h) (Or.inl ⟨by rfl, ?_⟩) hHeld ?_ ?_
               rotate_left
               ·
                rintro w' ⟨s0, s1, s2, s3, s4, s5, s6, s7, s8⟩
                go_simp
                with_reducible rfl
               rotate_left
               ·
                simp only [Act.put, sT, s0, sS, i64_w, i32_w]
                rfl
               refine take_ (i := 8) (N := some 43) (v := ?_) (a' := ?_) #[true, true, true, true, true, true, true, true, true, true, false, true, false, true, false, true, false, true, false, false, false, false] rfl rfl (take_ofW HT_.out HW_.out (by kernel_rfl)) (fun _ _ _ h => h) (Or.inl ⟨by rfl, ?_⟩) hHeld ?_ ?_
               rotate_left
               ·
                rintro w' ⟨s0, s1, s2, s3, s4, s5, s6, s7, s8⟩
                go_simp
                with_reducible rfl
               rotate_left
               ·
                simp only [Act.put, sT, s0, sS, i64_w, i32_w]
                rfl
               refine take_ (i := 10) (N := some 45) (v := ?_) (a' := ?_) #[true, true, true, true, true, true, true, true, true, true, true, true, false, true, false, true, false, true, false, false, false, false] rfl rfl (take_ofW HT_.out HW_.out (by kernel_rfl)) (fun _ _ _ h => h) (Or.inl ⟨by rfl, ?_⟩) hHeld ?_ ?_
               rotate_left
               ·
                rintro w' ⟨s0, s1, s2, s3, s4, s5, s6, s7, s8⟩
                go_simp
                with_reducible rfl
               rotate_left
               ·
                simp only [Act.put, sT, s0, sS, i64_w, i32_w]
                rfl
               refine take_ (i := 12) (N := some 47) (v := ?_) (a' := ?_) #[true, true, true, true, true, true, true, true, true, true, true, true, true, true, false, true, false, true, false, false, false, false] rfl rfl (take_ofW HT_.out HW_.out (by kernel_rfl)) (fun _ _ _ h => h) (Or.inl ⟨by rfl, ?_⟩) hHeld ?_ ?_
               rotate_left
               ·
                rintro w' ⟨s0, s1, s2, s3, s4, s5, s6, s7, s8⟩
                go_simp
                with_reducible rfl
               rotate_left
               ·
                simp only [Act.put, sT, s0, sS, i64_w, i32_w]
                rfl
               refine take_ (i := 14) (N := some 49) (v := ?_) (a' := ?_) #[true, true, true, true, true, true, true, true, true, true, true, true, true, true, true, true, false, true, false, false, false, false] rfl rfl (take_ofW HT_.out HW_.out (by kernel_rfl)) (fun _ _ _ h => h) (Or.inl ⟨by rfl, ?_⟩) hHeld ?_ ?_
               rotate_left
               ·
                rintro w' ⟨s0, s1, s2, s3, s4, s5, s6, s7, s8⟩
                go_simp
                with_reducible rfl
               rotate_left
               ·
                simp only [Act.put, sT, s0, sS, i64_w, i32_w]
                rfl
               refine take_ (i := 16) (N := some 51) (v := ?_) (a' := ?_) #[true, true, true, true, true, true, true, true, true, true, true, true, true, true, true, true, true, true, false, false, false, false] rfl rfl (take_ofW HT_.out HW_.out (by kernel_rfl)) (fun _ _ _ h => h) (Or.inl ⟨by rfl, ?_⟩) hHeld ?_ ?_
               rotate_left
               ·
                rintro w' ⟨s0, s1, s2, s3, s4, s5, s6, s7, s8⟩
                go_simp
                with_reducible rfl
               rotate_left
               ·
                simp only [Act.put, sT, s0, sS, i64_w, i32_w]
                rfl
               refine take_ (i := 18) (N := some 53) (v := ?_) (a' := ?_) #[true, true, true, true, true, true, true, true, true, true, true, true, true, true, true, true, true, true, true, false, false, false] rfl rfl (take_ofW HT_.out HW_.out (by kernel_rfl)) (fun _ _ _ h => h) (Or.inl ⟨by rfl, ?_⟩) hHeld ?_ ?_
               rotate_left
               ·
                rintro w' ⟨s0, s1, s2, s3, s4, s5, s6, s7, s8⟩
                go_simp
                with_reducible rfl
               rotate_left
               ·
                simp only [Act.put, sT, s0, sS, i64_w, i32_w]
                rfl
               refine pure_ (i := 19) (N := some 54) (v := ?_) (a' := ?_) #[true, true, true, true, true, true, true, true, true, true, true, true, true, true, true, true, true, true, true, true, false, false] rfl rfl (any_of HT_.out (by kernel_rfl)) (fun _ _ _ h => h) (Or.inl ⟨by rfl, ?_⟩) ?_ ?_
               rotate_left
               ·
                intro w'
                go_simp
                with_reducible rfl
               rotate_left
               ·
                simp only [Act.put, sT, s0, sS, i64_w, i32_w]
                rfl
               refine one_ (i := 20) (N := some 9) #[true, true, true, true, true, true, true, true, true, true, true, true, true, true, true, true, true, true, true, true, true, false] rfl rfl (one_of HT_.out (by kernel_rfl)) (by decide) (fun K hK => ?_)
               refine box_step ?hg (N := 9) ?hd (cs := #[.string (⟨#[]⟩ : ByteArray), .int .i64 0, .int .i64 0, .int .i64 0, .int .i64 0, .int .i64 0, .int .i64 0, .int .i64 0, .int .i64 0]) (t := 26) ?hr ?_; (case hd => rfl); (case hg => rfl); (case hr => first | (go_simp; done) | (go_simp; rfl))
               intro gb127 hg w34 hbox hb
               have n0_ := Aside0.mk (blk_below (g := gb162) (o := .cells #[.string (⟨#[]⟩ : ByteArray), .int .i64 0, .int .i64 0, .int .i64 0, .int .i64 0, .int .i64 0, .int .i64 0, .int .i64 0, .int .i64 0] 26 (0, 0)) (by (with_reducible repeat first | apply bN | apply bD | apply bA); exact BK162.out) hb)
               have n1_ := Aside0.mk (below_step (by repeat (first | (with_reducible first | exact HB.out | apply lA | apply lN | apply lD | refine below_set ?_ GE162.out) | exact HB.out)) hb)
               have n2_ := Aside0.mk (hbox)
               have n3_ := Aside0.mk ((by rw [hg]; exact (below_size (by repeat (first | (with_reducible first | exact HBQ.out | apply lA | apply lN | apply lD | refine below_set ?_ GE162.out) | exact HBQ.out))) : wr.heap.size ≤ gb127))
               have nq_ := Aside0.mk (below_step (by repeat (first | (with_reducible first | exact HBQ.out | apply lA | apply lN | apply lD) | exact HBQ.out)) hb)
               have n4_ := Aside0.mk ((by rw [hg]; exact (below_size (by repeat (first | (with_reducible first | exact HB.out | apply lA | apply lN | apply lD | refine below_set ?_ GE162.out) | exact HB.out))) : w.heap.size ≤ gb127))
               have n5_ := Aside0.mk ((by rw [hg]; exact Nat.ne_of_lt (blk_lt (g := gb162) (o := .cells #[.string (⟨#[]⟩ : ByteArray), .int .i64 0, .int .i64 0, .int .i64 0, .int .i64 0, .int .i64 0, .int .i64 0, .int .i64 0, .int .i64 0] 26 (0, 0)) (by (with_reducible repeat first | apply bN | apply bD | apply bA); exact BK162.out)) : gb162 ≠ gb127))
               have n6_ := Aside0.mk ((by rw [hg]; exact Nat.ne_of_gt (blk_lt (g := gb162) (o := .cells #[.string (⟨#[]⟩ : ByteArray), .int .i64 0, .int .i64 0, .int .i64 0, .int .i64 0, .int .i64 0, .int .i64 0, .int .i64 0, .int .i64 0] 26 (0, 0)) (by (with_reducible repeat first | apply bN | apply bD | apply bA); exact BK162.out)) : gb127 ≠ gb162))
               clear BK162
               clear HB
               have BK162 := n0_
               have HB := n1_
               clear HBQ
               have HBQ := nq_
               clear nq_
               have BK127 := n2_
               have GW127 := n3_
               have GE127 := n4_
               have NB162_127 := n5_
               have NB127_162 := n6_
               clear n0_ n1_ n2_ n3_ n4_ n5_ n6_
               clear hb hbox hg
               refine hK.out _ _ ⟨((HBQ.out.cell (World.block_lt_of_cell? _ _ hw118_0)).trans hw118_0), ((HBQ.out.cell (World.block_lt_of_cell? _ _ hw119_0)).trans hw119_0), ((HBQ.out.cell (World.block_lt_of_cell? _ _ hw120_0)).trans hw120_0), ((HBQ.out.cell (World.block_lt_of_cell? _ _ hw121_0)).trans hw121_0), ((HBQ.out.cell (World.block_lt_of_cell? _ _ hw122_0)).trans hw122_0), ((HBQ.out.cell (World.block_lt_of_cell? _ _ hw123_0)).trans hw123_0), ((HBQ.out.cell (World.block_lt_of_cell? _ _ hw124_0)).trans hw124_0), ((HBQ.out.cell (World.block_lt_of_cell? _ _ hw125_0)).trans hw125_0), ((HBQ.out.cell (World.block_lt_of_cell? _ _ hw126_0)).trans hw126_0)⟩ (fun hHeld => ?_)
               clear hK K
               refine norm_ (a' := ?_) ?_ ?_
               rotate_left
               ·
                show Act.put _ (some 9) _ = _
                simp only [Act.put, sT, s0, sS, i64_w, i32_w]
                rfl
               refine one_ (i := 21) (N := none) #[true, true, true, true, true, true, true, true, true, true, true, true, true, true, true, true, true, true, true, true, true, true] rfl rfl (one_of HT_.out (by kernel_rfl)) (by decide) (fun K hK => ?_)
               have hs35 : w34.cell? ⟨gb127, 0, none⟩ = some (.string (⟨#[]⟩ : ByteArray)) := (blk_cell BK127.out 0).trans rfl
               have hfs35 := blk_frozen BK127.out 0
               have hns35_0 := NB162_127.out
               have hms35_0 := NB127_162.out
               have hs36 : w34.cell? ⟨gb127, 1, none⟩ = some (.int .i64 0) := (blk_cell BK127.out 1).trans rfl
               have hfs36 := blk_frozen BK127.out 1
               have hns36_0 := NB162_127.out
               have hms36_0 := NB127_162.out
               have hs37 : w34.cell? ⟨gb127, 2, none⟩ = some (.int .i64 0) := (blk_cell BK127.out 2).trans rfl
               have hfs37 := blk_frozen BK127.out 2
               have hns37_0 := NB162_127.out
               have hms37_0 := NB127_162.out
               have hs38 : w34.cell? ⟨gb127, 3, none⟩ = some (.int .i64 0) := (blk_cell BK127.out 3).trans rfl
               have hfs38 := blk_frozen BK127.out 3
               have hns38_0 := NB162_127.out
               have hms38_0 := NB127_162.out
               have hs39 : w34.cell? ⟨gb127, 4, none⟩ = some (.int .i64 0) := (blk_cell BK127.out 4).trans rfl
               have hfs39 := blk_frozen BK127.out 4
               have hns39_0 := NB162_127.out
               have hms39_0 := NB127_162.out
               have hs40 : w34.cell? ⟨gb127, 5, none⟩ = some (.int .i64 0) := (blk_cell BK127.out 5).trans rfl
               have hfs40 := blk_frozen BK127.out 5
               have hns40_0 := NB162_127.out
               have hms40_0 := NB127_162.out
               have hs41 : w34.cell? ⟨gb127, 6, none⟩ = some (.int .i64 0) := (blk_cell BK127.out 6).trans rfl
               have hfs41 := blk_frozen BK127.out 6
               have hns41_0 := NB162_127.out
               have hms41_0 := NB127_162.out
               have hs42 : w34.cell? ⟨gb127, 7, none⟩ = some (.int .i64 0) := (blk_cell BK127.out 7).trans rfl
               have hfs42 := blk_frozen BK127.out 7
               have hns42_0 := NB162_127.out
               have hms42_0 := NB127_162.out
               have hs43 : w34.cell? ⟨gb127, 8, none⟩ = some (.int .i64 0) := (blk_cell BK127.out 8).trans rfl
               have hfs43 := blk_frozen BK127.out 8
               have hns43_0 := NB162_127.out
               have hms43_0 := NB127_162.out
               refine skip_ (w1 := ?_) (by rfl) rfl ?_ ?_
               rotate_left
               ·
                go_simp
                rfl
               refine hK.out _ _ ⟨((cf9 (by first | exact Nat.ne_of_lt (Nat.lt_of_lt_of_le (by have := World.block_lt_of_cell? _ _ hw118_0; first | rwa [add_block] at this | exact this) GW127.out) | (rw [add_block]; exact Nat.ne_of_lt (Nat.lt_of_lt_of_le (by have := World.block_lt_of_cell? _ _ hw118_0; first | rwa [add_block] at this | exact this) GW127.out)) | (show (Addr.add _ _).block ≠ _; rw [add_block]; exact Nat.ne_of_lt (Nat.lt_of_lt_of_le (by have := World.block_lt_of_cell? _ _ hw118_0; first | rwa [add_block] at this | exact this) GW127.out)) | (dsimp only; exact Nat.ne_of_lt (Nat.lt_of_lt_of_le (by have := World.block_lt_of_cell? _ _ hw118_0; first | rwa [add_block] at this | exact this) GW127.out))) _ _ _ _ _ _ _ _ _).trans (hHeld.1)), ((cf9 (by first | exact Nat.ne_of_lt (Nat.lt_of_lt_of_le (by have := World.block_lt_of_cell? _ _ hw119_0; first | rwa [add_block] at this | exact this) GW127.out) | (rw [add_block]; exact Nat.ne_of_lt (Nat.lt_of_lt_of_le (by have := World.block_lt_of_cell? _ _ hw119_0; first | rwa [add_block] at this | exact this) GW127.out)) | (show (Addr.add _ _).block ≠ _; rw [add_block]; exact Nat.ne_of_lt (Nat.lt_of_lt_of_le (by have := World.block_lt_of_cell? _ _ hw119_0; first | rwa [add_block] at this | exact this) GW127.out)) | (dsimp only; exact Nat.ne_of_lt (Nat.lt_of_lt_of_le (by have := World.block_lt_of_cell? _ _ hw119_0; first | rwa [add_block] at this | exact this) GW127.out))) _ _ _ _ _ _ _ _ _).trans (hHeld.2.1)), ((cf9 (by first | exact Nat.ne_of_lt (Nat.lt_of_lt_of_le (by have := World.block_lt_of_cell? _ _ hw120_0; first | rwa [add_block] at this | exact this) GW127.out) | (rw [add_block]; exact Nat.ne_of_lt (Nat.lt_of_lt_of_le (by have := World.block_lt_of_cell? _ _ hw120_0; first | rwa [add_block] at this | exact this) GW127.out)) | (show (Addr.add _ _).block ≠ _; rw [add_block]; exact Nat.ne_of_lt (Nat.lt_of_lt_of_le (by have := World.block_lt_of_cell? _ _ hw120_0; first | rwa [add_block] at this | exact this) GW127.out)) | (dsimp only; exact Nat.ne_of_lt (Nat.lt_of_lt_of_le (by have := World.block_lt_of_cell? _ _ hw120_0; first | rwa [add_block] at this | exact this) GW127.out))) _ _ _ _ _ _ _ _ _).trans (hHeld.2.2.1)), ((cf9 (by first | exact Nat.ne_of_lt (Nat.lt_of_lt_of_le (by have := World.block_lt_of_cell? _ _ hw121_0; first | rwa [add_block] at this | exact this) GW127.out) | (rw [add_block]; exact Nat.ne_of_lt (Nat.lt_of_lt_of_le (by have := World.block_lt_of_cell? _ _ hw121_0; first | rwa [add_block] at this | exact this) GW127.out)) | (show (Addr.add _ _).block ≠ _; rw [add_block]; exact Nat.ne_of_lt (Nat.lt_of_lt_of_le (by have := World.block_lt_of_cell? _ _ hw121_0; first | rwa [add_block] at this | exact this) GW127.out)) | (dsimp only; exact Nat.ne_of_lt (Nat.lt_of_lt_of_le (by have := World.block_lt_of_cell? _ _ hw121_0; first | rwa [add_block] at this | exact this) GW127.out))) _ _ _ _ _ _ _ _ _).trans (hHeld.2.2.2.1)), ((cf9 (by first | exact Nat.ne_of_lt (Nat.lt_of_lt_of_le (by have := World.block_lt_of_cell? _ _ hw122_0; first | rwa [add_block] at this | exact this) GW127.out) | (rw [add_block]; exact Nat.ne_of_lt (Nat.lt_of_lt_of_le (by have := World.block_lt_of_cell? _ _ hw122_0; first | rwa [add_block] at this | exact this) GW127.out)) | (show (Addr.add _ _).block ≠ _; rw [add_block]; exact Nat.ne_of_lt (Nat.lt_of_lt_of_le (by have := World.block_lt_of_cell? _ _ hw122_0; first | rwa [add_block] at this | exact this) GW127.out)) | (dsimp only; exact Nat.ne_of_lt (Nat.lt_of_lt_of_le (by have := World.block_lt_of_cell? _ _ hw122_0; first | rwa [add_block] at this | exact this) GW127.out))) _ _ _ _ _ _ _ _ _).trans (hHeld.2.2.2.2.1)), ((cf9 (by first | exact Nat.ne_of_lt (Nat.lt_of_lt_of_le (by have := World.block_lt_of_cell? _ _ hw123_0; first | rwa [add_block] at this | exact this) GW127.out) | (rw [add_block]; exact Nat.ne_of_lt (Nat.lt_of_lt_of_le (by have := World.block_lt_of_cell? _ _ hw123_0; first | rwa [add_block] at this | exact this) GW127.out)) | (show (Addr.add _ _).block ≠ _; rw [add_block]; exact Nat.ne_of_lt (Nat.lt_of_lt_of_le (by have := World.block_lt_of_cell? _ _ hw123_0; first | rwa [add_block] at this | exact this) GW127.out)) | (dsimp only; exact Nat.ne_of_lt (Nat.lt_of_lt_of_le (by have := World.block_lt_of_cell? _ _ hw123_0; first | rwa [add_block] at this | exact this) GW127.out))) _ _ _ _ _ _ _ _ _).trans (hHeld.2.2.2.2.2.1)), ((cf9 (by first | exact Nat.ne_of_lt (Nat.lt_of_lt_of_le (by have := World.block_lt_of_cell? _ _ hw124_0; first | rwa [add_block] at this | exact this) GW127.out) | (rw [add_block]; exact Nat.ne_of_lt (Nat.lt_of_lt_of_le (by have := World.block_lt_of_cell? _ _ hw124_0; first | rwa [add_block] at this | exact this) GW127.out)) | (show (Addr.add _ _).block ≠ _; rw [add_block]; exact Nat.ne_of_lt (Nat.lt_of_lt_of_le (by have := World.block_lt_of_cell? _ _ hw124_0; first | rwa [add_block] at this | exact this) GW127.out)) | (dsimp only; exact Nat.ne_of_lt (Nat.lt_of_lt_of_le (by have := World.block_lt_of_cell? _ _ hw124_0; first | rwa [add_block] at this | exact this) GW127.out))) _ _ _ _ _ _ _ _ _).trans (hHeld.2.2.2.2.2.2.1)), ((cf9 (by first | exact Nat.ne_of_lt (Nat.lt_of_lt_of_le (by have := World.block_lt_of_cell? _ _ hw125_0; first | rwa [add_block] at this | exact this) GW127.out) | (rw [add_block]; exact Nat.ne_of_lt (Nat.lt_of_lt_of_le (by have := World.block_lt_of_cell? _ _ hw125_0; first | rwa [add_block] at this | exact this) GW127.out)) | (show (Addr.add _ _).block ≠ _; rw [add_block]; exact Nat.ne_of_lt (Nat.lt_of_lt_of_le (by have := World.block_lt_of_cell? _ _ hw125_0; first | rwa [add_block] at this | exact this) GW127.out)) | (dsimp only; exact Nat.ne_of_lt (Nat.lt_of_lt_of_le (by have := World.block_lt_of_cell? _ _ hw125_0; first | rwa [add_block] at this | exact this) GW127.out))) _ _ _ _ _ _ _ _ _).trans (hHeld.2.2.2.2.2.2.2.1)), ((cf9 (by first | exact Nat.ne_of_lt (Nat.lt_of_lt_of_le (by have := World.block_lt_of_cell? _ _ hw126_0; first | rwa [add_block] at this | exact this) GW127.out) | (rw [add_block]; exact Nat.ne_of_lt (Nat.lt_of_lt_of_le (by have := World.block_lt_of_cell? _ _ hw126_0; first | rwa [add_block] at this | exact this) GW127.out)) | (show (Addr.add _ _).block ≠ _; rw [add_block]; exact Nat.ne_of_lt (Nat.lt_of_lt_of_le (by have := World.block_lt_of_cell? _ _ hw126_0; first | rwa [add_block] at this | exact this) GW127.out)) | (dsimp only; exact Nat.ne_of_lt (Nat.lt_of_lt_of_le (by have := World.block_lt_of_cell? _ _ hw126_0; first | rwa [add_block] at this | exact this) GW127.out))) _ _ _ _ _ _ _ _ _).trans (hHeld.2.2.2.2.2.2.2.2))⟩ (fun hHeld => ?_)
               clear hK K
               refine done_ (done_of HT_.out (by kernel_rfl)) ?_
               have hnb44 := NB127_162.out
               have hnc44 := NB162_127.out
               have hcz45_0 : w34.cell? ⟨gb127, 0, none⟩ = some (.string (⟨#[]⟩ : ByteArray)) := (blk_cell BK127.out 0).trans rfl
               have hcz45_1 : w34.cell? ⟨gb127, 1, none⟩ = some (.int .i64 0) := (blk_cell BK127.out 1).trans rfl
               have hcz45_2 : w34.cell? ⟨gb127, 2, none⟩ = some (.int .i64 0) := (blk_cell BK127.out 2).trans rfl
               have hcz45_3 : w34.cell? ⟨gb127, 3, none⟩ = some (.int .i64 0) := (blk_cell BK127.out 3).trans rfl
               have hcz45_4 : w34.cell? ⟨gb127, 4, none⟩ = some (.int .i64 0) := (blk_cell BK127.out 4).trans rfl
               have hcz45_5 : w34.cell? ⟨gb127, 5, none⟩ = some (.int .i64 0) := (blk_cell BK127.out 5).trans rfl
               have hcz45_6 : w34.cell? ⟨gb127, 6, none⟩ = some (.int .i64 0) := (blk_cell BK127.out 6).trans rfl
               have hcz45_7 : w34.cell? ⟨gb127, 7, none⟩ = some (.int .i64 0) := (blk_cell BK127.out 7).trans rfl
               have hcz45_8 : w34.cell? ⟨gb127, 8, none⟩ = some (.int .i64 0) := (blk_cell BK127.out 8).trans rfl
               have hfz45_0 := blk_frozen BK127.out 0
               have hfz45_1 := blk_frozen BK127.out 1
               have hfz45_2 := blk_frozen BK127.out 2
               have hfz45_3 := blk_frozen BK127.out 3
               have hfz45_4 := blk_frozen BK127.out 4
               have hfz45_5 := blk_frozen BK127.out 5
               have hfz45_6 := blk_frozen BK127.out 6
               have hfz45_7 := blk_frozen BK127.out 7
               have hfz45_8 := blk_frozen BK127.out 8
               try go_wp2_with (first | ((with_reducible refine gate_callee (f := 18) rfl ?_); refine goesL_ (some 56) rfl rfl Try.func18 (by kernel_rfl) rfl #[.agg #[.string (rdOf ByteArray.empty ws 0), .int .i64 (rd ns 0), .int .i64 (rd ns 1), .int .i64 (rd ns 2), .int .i64 (rd ns 3), .int .i64 (rd ns 4), .int .i64 (rd ns 5), .int .i64 (rd ns 6), .int .i64 (rd ns 7)]] rfl (by (try simp only [List.map_toArray, List.map_cons, List.map_nil]); first | done | rfl | (go_simp; done) | simp) ?_; (with_reducible refine (impl_IsArticle.calls k1 (rdOf ByteArray.empty ws 0) (rd ns 0) (rd ns 1) (rd ns 2) (rd ns 3) (rd ns 4) (rd ns 5) (rd ns 6) (rd ns 7) false _ A13.out).mono ?_); rintro e w46 ⟨rfl, hb⟩; refine ⟨_, rfl, ?_⟩; have n0_ := Aside0.mk (blk_below (g := gb162) (o := .cells #[.string (⟨#[]⟩ : ByteArray), .int .i64 0, .int .i64 0, .int .i64 0, .int .i64 0, .int .i64 0, .int .i64 0, .int .i64 0, .int .i64 0] 26 (0, 0)) (by (with_reducible repeat first | apply bN | apply bD | apply bA); refine blk_far ?_ NB162_127.out _; (with_reducible repeat first | apply bN | apply bD | apply bA); refine blk_far ?_ NB162_127.out _; (with_reducible repeat first | apply bN | apply bD | apply bA); refine blk_far ?_ NB162_127.out _; (with_reducible repeat first | apply bN | apply bD | apply bA); refine blk_far ?_ NB162_127.out _; (with_reducible repeat first | apply bN | apply bD | apply bA); refine blk_far ?_ NB162_127.out _; (with_reducible repeat first | apply bN | apply bD | apply bA); refine blk_far ?_ NB162_127.out _; (with_reducible repeat first | apply bN | apply bD | apply bA); refine blk_far ?_ NB162_127.out _; (with_reducible repeat first | apply bN | apply bD | apply bA); refine blk_far ?_ NB162_127.out _; (with_reducible repeat first | apply bN | apply bD | apply bA); refine blk_far ?_ NB162_127.out _; (with_reducible repeat first | apply bN | apply bD | apply bA); exact BK162.out) hb); have n1_ := Aside0.mk (blk_below (g := gb127) (o := .cells #[.string (rdOf ByteArray.empty ws 0), .int .i64 (rd ns 0), .int .i64 (rd ns 1), .int .i64 (rd ns 2), .int .i64 (rd ns 3), .int .i64 (rd ns 4), .int .i64 (rd ns 5), .int .i64 (rd ns 6), .int .i64 (rd ns 7)] 26 (0, 0)) (by (with_reducible repeat first | apply bN | apply bD | apply bA); refine blk_put (cs := #[.string (rdOf ByteArray.empty ws 0), .int .i64 (rd ns 0), .int .i64 (rd ns 1), .int .i64 (rd ns 2), .int .i64 (rd ns 3), .int .i64 (rd ns 4), .int .i64 (rd ns 5), .int .i64 (rd ns 6), .int .i64 0]) ?_ 8 _ rfl; (with_reducible repeat first | apply bN | apply bD | apply bA); refine blk_put (cs := #[.string (rdOf ByteArray.empty ws 0), .int .i64 (rd ns 0), .int .i64 (rd ns 1), .int .i64 (rd ns 2), .int .i64 (rd ns 3), .int .i64 (rd ns 4), .int .i64 (rd ns 5), .int .i64 0, .int .i64 0]) ?_ 7 _ rfl; (with_reducible repeat first | apply bN | apply bD | apply bA); refine blk_put (cs := #[.string (rdOf ByteArray.empty ws 0), .int .i64 (rd ns 0), .int .i64 (rd ns 1), .int .i64 (rd ns 2), .int .i64 (rd ns 3), .int .i64 (rd ns 4), .int .i64 0, .int .i64 0, .int .i64 0]) ?_ 6 _ rfl; (with_reducible repeat first | apply bN | apply bD | apply bA); refine blk_put (cs := #[.string (rdOf ByteArray.empty ws 0), .int .i64 (rd ns 0), .int .i64 (rd ns 1), .int .i64 (rd ns 2), .int .i64 (rd ns 3), .int .i64 0, .int .i64 0, .int .i64 0, .int .i64 0]) ?_ 5 _ rfl; (with_reducible repeat first | apply bN | apply bD | apply bA); refine blk_put (cs := #[.string (rdOf ByteArray.empty ws 0), .int .i64 (rd ns 0), .int .i64 (rd ns 1), .int .i64 (rd ns 2), .int .i64 0, .int .i64 0, .int .i64 0, .int .i64 0, .int .i64 0]) ?_ 4 _ rfl; (with_reducible repeat first | apply bN | apply bD | apply bA); refine blk_put (cs := #[.string (rdOf ByteArray.empty ws 0), .int .i64 (rd ns 0), .int .i64 (rd ns 1), .int .i64 0, .int .i64 0, .int .i64 0, .int .i64 0, .int .i64 0, .int .i64 0]) ?_ 3 _ rfl; (with_reducible repeat first | apply bN | apply bD | apply bA); refine blk_put (cs := #[.string (rdOf ByteArray.empty ws 0), .int .i64 (rd ns 0), .int .i64 0, .int .i64 0, .int .i64 0, .int .i64 0, .int .i64 0, .int .i64 0, .int .i64 0]) ?_ 2 _ rfl; (with_reducible repeat first | apply bN | apply bD | apply bA); refine blk_put (cs := #[.string (rdOf ByteArray.empty ws 0), .int .i64 0, .int .i64 0, .int .i64 0, .int .i64 0, .int .i64 0, .int .i64 0, .int .i64 0, .int .i64 0]) ?_ 1 _ rfl; (with_reducible repeat first | apply bN | apply bD | apply bA); refine blk_put (cs := #[.string (⟨#[]⟩ : ByteArray), .int .i64 0, .int .i64 0, .int .i64 0, .int .i64 0, .int .i64 0, .int .i64 0, .int .i64 0, .int .i64 0]) ?_ 0 _ rfl; (with_reducible repeat first | apply bN | apply bD | apply bA); exact BK127.out) hb); have n2_ := Aside0.mk (below_step (by repeat (first | (with_reducible first | exact HB.out | apply lA | apply lN | apply lD | refine below_set ?_ GE162.out | refine below_set ?_ GE127.out) | exact HB.out)) hb); clear BK162; clear BK127; clear HB; have BK162 := n0_; have BK127 := n1_; have HB := n2_; clear n0_ n1_ n2_; (try clear hb); (try clear hb2); (try clear hk); (try clear hi); have hcz47_0 : w46.cell? ⟨gb162, 0, none⟩ = some (.string (⟨#[]⟩ : ByteArray)) := (blk_cell BK162.out 0).trans rfl; have hcz47_1 : w46.cell? ⟨gb162, 1, none⟩ = some (.int .i64 0) := (blk_cell BK162.out 1).trans rfl; have hcz47_2 : w46.cell? ⟨gb162, 2, none⟩ = some (.int .i64 0) := (blk_cell BK162.out 2).trans rfl; have hcz47_3 : w46.cell? ⟨gb162, 3, none⟩ = some (.int .i64 0) := (blk_cell BK162.out 3).trans rfl; have hcz47_4 : w46.cell? ⟨gb162, 4, none⟩ = some (.int .i64 0) := (blk_cell BK162.out 4).trans rfl; have hcz47_5 : w46.cell? ⟨gb162, 5, none⟩ = some (.int .i64 0) := (blk_cell BK162.out 5).trans rfl; have hcz47_6 : w46.cell? ⟨gb162, 6, none⟩ = some (.int .i64 0) := (blk_cell BK162.out 6).trans rfl; have hcz47_7 : w46.cell? ⟨gb162, 7, none⟩ = some (.int .i64 0) := (blk_cell BK162.out 7).trans rfl; have hcz47_8 : w46.cell? ⟨gb162, 8, none⟩ = some (.int .i64 0) := (blk_cell BK162.out 8).trans rfl; have hfz47_0 := blk_frozen BK162.out 0; have hfz47_1 := blk_frozen BK162.out 1; have hfz47_2 := blk_frozen BK162.out 2; have hfz47_3 := blk_frozen BK162.out 3; have hfz47_4 := blk_frozen BK162.out 4; have hfz47_5 := blk_frozen BK162.out 5; have hfz47_6 := blk_frozen BK162.out 6; have hfz47_7 := blk_frozen BK162.out 7; have hfz47_8 := blk_frozen BK162.out 8))
               refine bodyPost_ret (results_ct rfl _ _ gb162 26 #[.string (⟨#[]⟩ : ByteArray), .int .i64 0, .int .i64 0, .int .i64 0, .int .i64 0, .int .i64 0, .int .i64 0, .int .i64 0, .int .i64 0] (0, 0) _ rfl (by (with_reducible repeat first | apply bN | apply bD | apply bA); refine blk_put (cs := #[.string (⟨#[]⟩ : ByteArray), .int .i64 0, .int .i64 0, .int .i64 0, .int .i64 0, .int .i64 0, .int .i64 0, .int .i64 0, .int .i64 0]) ?_ 8 _ rfl; (with_reducible repeat first | apply bN | apply bD | apply bA); refine blk_put (cs := #[.string (⟨#[]⟩ : ByteArray), .int .i64 0, .int .i64 0, .int .i64 0, .int .i64 0, .int .i64 0, .int .i64 0, .int .i64 0, .int .i64 0]) ?_ 7 _ rfl; (with_reducible repeat first | apply bN | apply bD | apply bA); refine blk_put (cs := #[.string (⟨#[]⟩ : ByteArray), .int .i64 0, .int .i64 0, .int .i64 0, .int .i64 0, .int .i64 0, .int .i64 0, .int .i64 0, .int .i64 0]) ?_ 6 _ rfl; (with_reducible repeat first | apply bN | apply bD | apply bA); refine blk_put (cs := #[.string (⟨#[]⟩ : ByteArray), .int .i64 0, .int .i64 0, .int .i64 0, .int .i64 0, .int .i64 0, .int .i64 0, .int .i64 0, .int .i64 0]) ?_ 5 _ rfl; (with_reducible repeat first | apply bN | apply bD | apply bA); refine blk_put (cs := #[.string (⟨#[]⟩ : ByteArray), .int .i64 0, .int .i64 0, .int .i64 0, .int .i64 0, .int .i64 0, .int .i64 0, .int .i64 0, .int .i64 0]) ?_ 4 _ rfl; (with_reducible repeat first | apply bN | apply bD | apply bA); refine blk_put (cs := #[.string (⟨#[]⟩ : ByteArray), .int .i64 0, .int .i64 0, .int .i64 0, .int .i64 0, .int .i64 0, .int .i64 0, .int .i64 0, .int .i64 0]) ?_ 3 _ rfl; (with_reducible repeat first | apply bN | apply bD | apply bA); refine blk_put (cs := #[.string (⟨#[]⟩ : ByteArray), .int .i64 0, .int .i64 0, .int .i64 0, .int .i64 0, .int .i64 0, .int .i64 0, .int .i64 0, .int .i64 0]) ?_ 2 _ rfl; (with_reducible repeat first | apply bN | apply bD | apply bA); refine blk_put (cs := #[.string (⟨#[]⟩ : ByteArray), .int .i64 0, .int .i64 0, .int .i64 0, .int .i64 0, .int .i64 0, .int .i64 0, .int .i64 0, .int .i64 0]) ?_ 1 _ rfl; (with_reducible repeat first | apply bN | apply bD | apply bA); refine blk_put (cs := #[.string (⟨#[]⟩ : ByteArray), .int .i64 0, .int .i64 0, .int .i64 0, .int .i64 0, .int .i64 0, .int .i64 0, .int .i64 0, .int .i64 0]) ?_ 0 _ rfl; (with_reducible repeat first | apply bN | apply bD | apply bA); exact BK162.out) Try.underlying26 rfl (by kernel_rfl)) rfl ?_
               exact ⟨by first | rfl | (simp [errW_none, errW_some] <;> rfl) | (simp [*, errW_none, errW_some] <;> rfl), by repeat (first | (with_reducible first | exact HB.out | apply lA | apply lN | apply lD | refine below_set ?_ GE162.out | refine below_set ?_ GE127.out) | exact HB.out)⟩
             ·
              rw [if_neg c12] at H
              exact absurd H (by simp)
            ·
             rw [if_neg c11] at H
             exact absurd H (by simp)
           ·
            rw [if_neg c10] at H
            exact absurd H (by simp)
          ·
           rw [if_neg c9] at H
           exact absurd H (by simp)
         ·
          rw [if_neg c8] at H
          exact absurd H (by simp)
        ·
         rw [if_neg c7] at H
         exact absurd H (by simp)
       ·
        rw [if_neg c6] at H
        exact absurd H (by simp)
      ·
       rw [if_neg c5] at H
       exact absurd H (by simp)
     ·
      rw [if_neg c4] at H
      exact absurd H (by simp)
 ·
  rw [if_neg c3] at H
  have c3b0 : ((ws.length : Int) == 9) = false := beq_eq_false_iff_ne.mpr c3
  have c3b1 : ((ws.length : Int) != 9) = true := bne_iff_ne.mpr c3
  simp only [Option.some.injEq, Prod.mk.injEq] at H
  obtain ⟨rfl, rfl, rfl, rfl, rfl, rfl, rfl, rfl, rfl, rfl⟩ := H
  go_enter Try.func24, Try.ntmps24
  go_wp2_with (first | ((with_reducible refine gate_dst (N := 2) rfl ?_); refine box_event ?hg (N := 2) ?hd (cs := #[.string (⟨#[]⟩ : ByteArray), .int .i64 0, .int .i64 0, .int .i64 0, .int .i64 0, .int .i64 0, .int .i64 0, .int .i64 0, .int .i64 0]) (t := 26) ?hr ?_; (case hd => rfl); (case hg => rfl); (case hr => first | (go_simp; done) | (go_simp; rfl)); intro gb162 hg w3 hbox hb; have n0_ := Aside0.mk (below_step (by repeat (first | (with_reducible first | exact HB.out | apply lA | apply lN | apply lD) | exact HB.out)) hb); have BK162 := Aside0.mk hbox; have GE162 := Aside0.mk ((by rw [hg]; exact (below_size (by repeat (first | (with_reducible first | exact HB.out | apply lA | apply lN | apply lD) | exact HB.out)))) : w.heap.size ≤ gb162); clear HB; have HB := n0_; clear n0_ hb hbox hg) | ((with_reducible refine gate_callee (f := 70) rfl ?_); refine goesL_ (some 11) rfl rfl Try.func70 (by kernel_rfl) rfl #[.string a0, .int .u8 47] rfl (by (try simp only [List.map_toArray, List.map_cons, List.map_nil]); first | done | rfl | (go_simp; done) | simp) ?_; (with_reducible refine (impl_splitAt.calls k a0 47 ws _ A2.out).mono ?_); rintro e wp ⟨vp, rfl, ho0, hb⟩; refine ⟨_, rfl, ?_⟩; have n1_ := Aside0.mk (blk_below (g := gb162) (o := .cells #[.string (⟨#[]⟩ : ByteArray), .int .i64 0, .int .i64 0, .int .i64 0, .int .i64 0, .int .i64 0, .int .i64 0, .int .i64 0, .int .i64 0] 26 (0, 0)) (by (with_reducible repeat first | apply bN | apply bD | apply bA); exact BK162.out) hb); have n2_ := Aside0.mk (below_step (by repeat (first | (with_reducible first | exact HB.out | apply lA | apply lN | apply lD) | exact HB.out)) hb); clear BK162 HB; have BK162 := n1_; have HB := n2_; clear n1_ n2_; obtain ⟨Ap, cp, ep⟩ := Kd.R_slice ho0; subst ep; have HP := Aside0.mk (Kd.R_reads' ho0).2.2; clear ho0 hb; have hcz70_0 : wp.cell? ⟨gb162, 0, none⟩ = some (.string (⟨#[]⟩ : ByteArray)) := (blk_cell BK162.out 0).trans rfl; have hcz70_1 : wp.cell? ⟨gb162, 1, none⟩ = some (.int .i64 0) := (blk_cell BK162.out 1).trans rfl; have hcz70_2 : wp.cell? ⟨gb162, 2, none⟩ = some (.int .i64 0) := (blk_cell BK162.out 2).trans rfl; have hcz70_3 : wp.cell? ⟨gb162, 3, none⟩ = some (.int .i64 0) := (blk_cell BK162.out 3).trans rfl; have hcz70_4 : wp.cell? ⟨gb162, 4, none⟩ = some (.int .i64 0) := (blk_cell BK162.out 4).trans rfl; have hcz70_5 : wp.cell? ⟨gb162, 5, none⟩ = some (.int .i64 0) := (blk_cell BK162.out 5).trans rfl; have hcz70_6 : wp.cell? ⟨gb162, 6, none⟩ = some (.int .i64 0) := (blk_cell BK162.out 6).trans rfl; have hcz70_7 : wp.cell? ⟨gb162, 7, none⟩ = some (.int .i64 0) := (blk_cell BK162.out 7).trans rfl; have hcz70_8 : wp.cell? ⟨gb162, 8, none⟩ = some (.int .i64 0) := (blk_cell BK162.out 8).trans rfl; have hfz70_0 := blk_frozen BK162.out 0; have hfz70_1 := blk_frozen BK162.out 1; have hfz70_2 := blk_frozen BK162.out 2; have hfz70_3 := blk_frozen BK162.out 3; have hfz70_4 := blk_frozen BK162.out 4; have hfz70_5 := blk_frozen BK162.out 5; have hfz70_6 := blk_frozen BK162.out 6; have hfz70_7 := blk_frozen BK162.out 7; have hfz70_8 := blk_frozen BK162.out 8))
  refine bodyPost_ret (results_ct rfl _ _ gb162 26 #[.string (⟨#[]⟩ : ByteArray), .int .i64 0, .int .i64 0, .int .i64 0, .int .i64 0, .int .i64 0, .int .i64 0, .int .i64 0, .int .i64 0] (0, 0) _ rfl (by (with_reducible repeat first | apply bN | apply bD | apply bA); refine blk_put (cs := #[.string (⟨#[]⟩ : ByteArray), .int .i64 0, .int .i64 0, .int .i64 0, .int .i64 0, .int .i64 0, .int .i64 0, .int .i64 0, .int .i64 0]) ?_ 8 _ rfl; (with_reducible repeat first | apply bN | apply bD | apply bA); refine blk_put (cs := #[.string (⟨#[]⟩ : ByteArray), .int .i64 0, .int .i64 0, .int .i64 0, .int .i64 0, .int .i64 0, .int .i64 0, .int .i64 0, .int .i64 0]) ?_ 7 _ rfl; (with_reducible repeat first | apply bN | apply bD | apply bA); refine blk_put (cs := #[.string (⟨#[]⟩ : ByteArray), .int .i64 0, .int .i64 0, .int .i64 0, .int .i64 0, .int .i64 0, .int .i64 0, .int .i64 0, .int .i64 0]) ?_ 6 _ rfl; (with_reducible repeat first | apply bN | apply bD | apply bA); refine blk_put (cs := #[.string (⟨#[]⟩ : ByteArray), .int .i64 0, .int .i64 0, .int .i64 0, .int .i64 0, .int .i64 0, .int .i64 0, .int .i64 0, .int .i64 0]) ?_ 5 _ rfl; (with_reducible repeat first | apply bN | apply bD | apply bA); refine blk_put (cs := #[.string (⟨#[]⟩ : ByteArray), .int .i64 0, .int .i64 0, .int .i64 0, .int .i64 0, .int .i64 0, .int .i64 0, .int .i64 0, .int .i64 0]) ?_ 4 _ rfl; (with_reducible repeat first | apply bN | apply bD | apply bA); refine blk_put (cs := #[.string (⟨#[]⟩ : ByteArray), .int .i64 0, .int .i64 0, .int .i64 0, .int .i64 0, .int .i64 0, .int .i64 0, .int .i64 0, .int .i64 0]) ?_ 3 _ rfl; (with_reducible repeat first | apply bN | apply bD | apply bA); refine blk_put (cs := #[.string (⟨#[]⟩ : ByteArray), .int .i64 0, .int .i64 0, .int .i64 0, .int .i64 0, .int .i64 0, .int .i64 0, .int .i64 0, .int .i64 0]) ?_ 2 _ rfl; (with_reducible repeat first | apply bN | apply bD | apply bA); refine blk_put (cs := #[.string (⟨#[]⟩ : ByteArray), .int .i64 0, .int .i64 0, .int .i64 0, .int .i64 0, .int .i64 0, .int .i64 0, .int .i64 0, .int .i64 0]) ?_ 1 _ rfl; (with_reducible repeat first | apply bN | apply bD | apply bA); refine blk_put (cs := #[.string (⟨#[]⟩ : ByteArray), .int .i64 0, .int .i64 0, .int .i64 0, .int .i64 0, .int .i64 0, .int .i64 0, .int .i64 0, .int .i64 0]) ?_ 0 _ rfl; (with_reducible repeat first | apply bN | apply bD | apply bA); exact BK162.out) Try.underlying26 rfl (by kernel_rfl)) rfl ?_
  exact ⟨by first | rfl | (simp [errW_none, errW_some] <;> rfl) | (simp [*, errW_none, errW_some] <;> rfl), by repeat (first | (with_reducible first | exact HB.out | apply lA | apply lN | apply lD | refine below_set ?_ GE162.out) | exact HB.out)⟩

end Go.Proofs.Ytmepklccbogibaa.QFnArticleTexts
