-- Written by a program of this project's session, after the kit's print (a turned copy of its programs). Lean checks it.
import Derived.Test.YtmepklccbogibaaQFnArticleTextsx0
import Derived.Test.YtmepklccbogibaaQFnArticleTextsx5
import Derived.Test.YtmepklccbogibaaQFnArticleTextsx7
import Derived.Test.YtmepklccbogibaaQFnArticleTextsx8h
namespace Go.Proofs.Ytmepklccbogibaa.QFnArticleTexts
open Go.RowKit Go.Proofs.YtmepklccbogibaaW.PrintWords Go.Proofs.YtmepklccbogibaaW.PrintLast Go.Proofs.YtmepklccbogibaaW.PrintMore
attribute [local go_sem] max2_int min2_int max_two min_two max_three min_three max_four min_four   -- for this text's walks alone
set_option linter.unusedVariables false
set_option linter.unusedSimpArgs false

/-! ### spec_ReadArticle: function 25 -/
def spec_ReadArticle.f (k : Nat) (a0 : ByteArray) : Option (ByteArray × Int × Int × Int × Int × Int × Int × Int × Int × Int) := (spec_l01Split.f k a0 47).bind fun t163 => (if (t163.length : Int) = 9 then (if 1 ≤ (t163.length : Int) then ((spec_l01Numbers.f k (t163.drop 1)).bind fun bt170 => (if bt170.2 = true then (if 0 < (t163.length : Int) then (if 0 < (bt170.1.length : Int) then (if 1 < (bt170.1.length : Int) then (if 2 < (bt170.1.length : Int) then (if 3 < (bt170.1.length : Int) then (if 4 < (bt170.1.length : Int) then (if 5 < (bt170.1.length : Int) then (if 6 < (bt170.1.length : Int) then (if 7 < (bt170.1.length : Int) then ((spec_IsArticle.f k (rdOf ByteArray.empty t163 0) (rd bt170.1 0) (rd bt170.1 1) (rd bt170.1 2) (rd bt170.1 3) (rd bt170.1 4) (rd bt170.1 5) (rd bt170.1 6) (rd bt170.1 7)).bind fun t181 => (if t181 = true then (some (rdOf ByteArray.empty t163 0, rd bt170.1 0, rd bt170.1 1, rd bt170.1 2, rd bt170.1 3, rd bt170.1 4, rd bt170.1 5, rd bt170.1 6, rd bt170.1 7, 0)) else (some ((⟨#[]⟩ : ByteArray), 0, 0, 0, 0, 0, 0, 0, 0, 6)))) else (none)) else (none)) else (none)) else (none)) else (none)) else (none)) else (none)) else (none)) else (none)) else (some ((⟨#[]⟩ : ByteArray), 0, 0, 0, 0, 0, 0, 0, 0, 6)))) else (none)) else (some ((⟨#[]⟩ : ByteArray), 0, 0, 0, 0, 0, 0, 0, 0, 6)))
theorem spec_ReadArticle.mono : ∀ a0 k, LeO (spec_ReadArticle.f k a0) (spec_ReadArticle.f (k + 1) a0) := by
 intro a0 k
 unfold spec_ReadArticle.f
 repeat' first
   | (with_reducible exact spec_IsArticle.mono _ _ _ _ _ _ _ _ _ _)
   | (with_reducible exact spec_l01Numbers.mono _ _)
   | (with_reducible exact spec_l01Split.mono _ _ _)
   | (with_reducible exact LeO.refl _)
   | (with_reducible exact LeO.none _)
   | (with_reducible refine LeO.ite ?_ ?_)
   | (with_reducible refine LeO.bind ?_ (fun _ => ?_))
   | exact spec_IsArticle.mono _ _ _ _ _ _ _ _ _ _
   | exact spec_l01Numbers.mono _ _
   | exact spec_l01Split.mono _ _ _
   | exact LeO.none _
   | refine LeO.ite ?_ ?_
   | refine LeO.bind ?_ (fun _ => ?_)
def spec_ReadArticle.T7 : Bool × List (List Nat × List Nat) := (true, [([], []), ([0], [0]), ([1], [1]), ([], []), ([3], [3]), ([4], [4]), ([], []), ([6], [6]), ([7], [7]), ([], []), ([9], [9]), ([10], [10]), ([], []), ([12], [12]), ([13], [13]), ([], []), ([15], [15]), ([16], [16]), ([], []), ([18], [18]), ([19], [19]), ([], []), ([21], [21]), ([22], [22]), ([], []), ([24], [24]), ([25], [25]), ([2, 5, 8, 11, 14, 17, 20, 23, 26], [2, 5, 8, 11, 14, 17, 20, 23, 26]), ([], []), ([28, 27, 0, 1, 2, 3, 4, 5, 6, 7, 8, 9, 10, 11, 12, 13, 14, 15, 16, 17, 18, 19, 20, 21, 22, 23, 24, 25, 26, 27, 28], [27, 28])])
def spec_ReadArticle.B7 : List Nat := [0, 1, 3, 0, 8, 24, 0, 64, 192, 0, 512, 1536, 0, 4096, 12288, 0, 32768, 98304, 0, 262144, 786432, 0, 2097152, 6291456, 0, 16777216, 50331648, 134217727, 0, 536870911]
theorem spec_ReadArticle.tab7 : rtab .any (opsOf Try.f25 7) = spec_ReadArticle.T7 := by kernel_rfl
theorem spec_ReadArticle.bits7 : waitsOk spec_ReadArticle.T7.2 spec_ReadArticle.B7 = true := by kernel_rfl
set_option maxHeartbeats 8000000 in
set_option maxRecDepth 100000 in
theorem spec_ReadArticle.calls (k : Nat) (a0 : ByteArray) (r1 : ByteArray) (r2 : Int) (r3 : Int) (r4 : Int) (r5 : Int) (r6 : Int) (r7 : Int) (r8 : Int) (r9 : Int) (r10 : Int) (w : World) (h : spec_ReadArticle.f k a0 = some (r1, r2, r3, r4, r5, r6, r7, r8, r9, r10)) :
  Calls Try.prog 25 #[.string a0] w fun e w' => e = .returned (.tuple #[.agg #[.string r1, .int .i64 r2, .int .i64 r3, .int .i64 r4, .int .i64 r5, .int .i64 r6, .int .i64 r7, .int .i64 r8, .int .i64 r9], .int .i64 r10]) ∧ Below w.heap.size w w' := by
 have hu26 := Try.underlying26
 have HB := Aside0.mk (Below.refl w.heap.size w)
 have H : ((spec_l01Split.f k a0 47).bind fun t163 => (if (t163.length : Int) = 9 then (if 1 ≤ (t163.length : Int) then ((spec_l01Numbers.f k (t163.drop 1)).bind fun bt170 => (if bt170.2 = true then (if 0 < (t163.length : Int) then (if 0 < (bt170.1.length : Int) then (if 1 < (bt170.1.length : Int) then (if 2 < (bt170.1.length : Int) then (if 3 < (bt170.1.length : Int) then (if 4 < (bt170.1.length : Int) then (if 5 < (bt170.1.length : Int) then (if 6 < (bt170.1.length : Int) then (if 7 < (bt170.1.length : Int) then ((spec_IsArticle.f k (rdOf ByteArray.empty t163 0) (rd bt170.1 0) (rd bt170.1 1) (rd bt170.1 2) (rd bt170.1 3) (rd bt170.1 4) (rd bt170.1 5) (rd bt170.1 6) (rd bt170.1 7)).bind fun t181 => (if t181 = true then (some (rdOf ByteArray.empty t163 0, rd bt170.1 0, rd bt170.1 1, rd bt170.1 2, rd bt170.1 3, rd bt170.1 4, rd bt170.1 5, rd bt170.1 6, rd bt170.1 7, 0)) else (some ((⟨#[]⟩ : ByteArray), 0, 0, 0, 0, 0, 0, 0, 0, 6)))) else (none)) else (none)) else (none)) else (none)) else (none)) else (none)) else (none)) else (none)) else (none)) else (some ((⟨#[]⟩ : ByteArray), 0, 0, 0, 0, 0, 0, 0, 0, 6)))) else (none)) else (some ((⟨#[]⟩ : ByteArray), 0, 0, 0, 0, 0, 0, 0, 0, 6)))) = some (r1, r2, r3, r4, r5, r6, r7, r8, r9, r10) := h
 clear h
 replace H := Option.bind_eq_some_iff.mp H
 obtain ⟨t163, A20, H⟩ := H
 replace H : (if (t163.length : Int) = 9 then (if 1 ≤ (t163.length : Int) then ((spec_l01Numbers.f k (t163.drop 1)).bind fun bt170 => (if bt170.2 = true then (if 0 < (t163.length : Int) then (if 0 < (bt170.1.length : Int) then (if 1 < (bt170.1.length : Int) then (if 2 < (bt170.1.length : Int) then (if 3 < (bt170.1.length : Int) then (if 4 < (bt170.1.length : Int) then (if 5 < (bt170.1.length : Int) then (if 6 < (bt170.1.length : Int) then (if 7 < (bt170.1.length : Int) then ((spec_IsArticle.f k (rdOf ByteArray.empty t163 0) (rd bt170.1 0) (rd bt170.1 1) (rd bt170.1 2) (rd bt170.1 3) (rd bt170.1 4) (rd bt170.1 5) (rd bt170.1 6) (rd bt170.1 7)).bind fun t181 => (if t181 = true then (some (rdOf ByteArray.empty t163 0, rd bt170.1 0, rd bt170.1 1, rd bt170.1 2, rd bt170.1 3, rd bt170.1 4, rd bt170.1 5, rd bt170.1 6, rd bt170.1 7, 0)) else (some ((⟨#[]⟩ : ByteArray), 0, 0, 0, 0, 0, 0, 0, 0, 6)))) else (none)) else (none)) else (none)) else (none)) else (none)) else (none)) else (none)) else (none)) else (none)) else (some ((⟨#[]⟩ : ByteArray), 0, 0, 0, 0, 0, 0, 0, 0, 6)))) else (none)) else (some ((⟨#[]⟩ : ByteArray), 0, 0, 0, 0, 0, 0, 0, 0, 6))) = some (r1, r2, r3, r4, r5, r6, r7, r8, r9, r10) := H
 have A2 := Aside0.mk A20
 clear A20
 by_cases c3 : (t163.length : Int) = 9
 ·
  rw [if_pos c3] at H
  have c3b0 : ((t163.length : Int) == 9) = true := beq_iff_eq.mpr c3
  have c3b1 : ((t163.length : Int) != 9) = false := bne_eq_false_iff_eq.mpr c3
  clear c3
  by_cases c4 : 1 ≤ (t163.length : Int)
  ·
   rw [if_pos c4] at H
   have c4b0 := eq_true c4
   have c4b1 : decide (1 ≤ (t163.length : Int)) = true := decide_eq_true c4
   clear c4
   obtain ⟨y166, hy166⟩ : ∃ y_ : List ByteArray, y_ = (t163.drop 1) := ⟨_, rfl⟩
   replace H : ((spec_l01Numbers.f k y166).bind fun bt170 => (if bt170.2 = true then (if 0 < (t163.length : Int) then (if 0 < (bt170.1.length : Int) then (if 1 < (bt170.1.length : Int) then (if 2 < (bt170.1.length : Int) then (if 3 < (bt170.1.length : Int) then (if 4 < (bt170.1.length : Int) then (if 5 < (bt170.1.length : Int) then (if 6 < (bt170.1.length : Int) then (if 7 < (bt170.1.length : Int) then ((spec_IsArticle.f k (rdOf ByteArray.empty t163 0) (rd bt170.1 0) (rd bt170.1 1) (rd bt170.1 2) (rd bt170.1 3) (rd bt170.1 4) (rd bt170.1 5) (rd bt170.1 6) (rd bt170.1 7)).bind fun t181 => (if t181 = true then (some (rdOf ByteArray.empty t163 0, rd bt170.1 0, rd bt170.1 1, rd bt170.1 2, rd bt170.1 3, rd bt170.1 4, rd bt170.1 5, rd bt170.1 6, rd bt170.1 7, 0)) else (some ((⟨#[]⟩ : ByteArray), 0, 0, 0, 0, 0, 0, 0, 0, 6)))) else (none)) else (none)) else (none)) else (none)) else (none)) else (none)) else (none)) else (none)) else (none)) else (some ((⟨#[]⟩ : ByteArray), 0, 0, 0, 0, 0, 0, 0, 0, 6)))) = some (r1, r2, r3, r4, r5, r6, r7, r8, r9, r10) := by first | (rw [hy166]; with_reducible exact H) | (have H2_ := (Option.bind_some _ _).symm.trans H; rw [hy166]; with_reducible exact H2_) | (have H2_ := (Option.bind_some _ _).symm.trans H; with_reducible exact H2_) | with_reducible exact H | (rw [hy166]; exact H) | exact H
   have Ny166 := Aside0.mk hy166
   clear hy166
   replace H := Option.bind_eq_some_iff.mp H
   obtain ⟨⟨t170, t171⟩, A50, H⟩ := H
   replace H : (if t171 = true then (if 0 < (t163.length : Int) then (if 0 < (t170.length : Int) then (if 1 < (t170.length : Int) then (if 2 < (t170.length : Int) then (if 3 < (t170.length : Int) then (if 4 < (t170.length : Int) then (if 5 < (t170.length : Int) then (if 6 < (t170.length : Int) then (if 7 < (t170.length : Int) then ((spec_IsArticle.f k (rdOf ByteArray.empty t163 0) (rd t170 0) (rd t170 1) (rd t170 2) (rd t170 3) (rd t170 4) (rd t170 5) (rd t170 6) (rd t170 7)).bind fun t181 => (if t181 = true then (some (rdOf ByteArray.empty t163 0, rd t170 0, rd t170 1, rd t170 2, rd t170 3, rd t170 4, rd t170 5, rd t170 6, rd t170 7, 0)) else (some ((⟨#[]⟩ : ByteArray), 0, 0, 0, 0, 0, 0, 0, 0, 6)))) else (none)) else (none)) else (none)) else (none)) else (none)) else (none)) else (none)) else (none)) else (none)) else (some ((⟨#[]⟩ : ByteArray), 0, 0, 0, 0, 0, 0, 0, 0, 6))) = some (r1, r2, r3, r4, r5, r6, r7, r8, r9, r10) := H
   have A5 := Aside0.mk A50
   clear A50
   by_cases c6 : t171 = true
   ·
    subst c6
    have H1 : (if 0 < (t163.length : Int) then (if 0 < (t170.length : Int) then (if 1 < (t170.length : Int) then (if 2 < (t170.length : Int) then (if 3 < (t170.length : Int) then (if 4 < (t170.length : Int) then (if 5 < (t170.length : Int) then (if 6 < (t170.length : Int) then (if 7 < (t170.length : Int) then ((spec_IsArticle.f k (rdOf ByteArray.empty t163 0) (rd t170 0) (rd t170 1) (rd t170 2) (rd t170 3) (rd t170 4) (rd t170 5) (rd t170 6) (rd t170 7)).bind fun t181 => (if t181 = true then (some (rdOf ByteArray.empty t163 0, rd t170 0, rd t170 1, rd t170 2, rd t170 3, rd t170 4, rd t170 5, rd t170 6, rd t170 7, 0)) else (some ((⟨#[]⟩ : ByteArray), 0, 0, 0, 0, 0, 0, 0, 0, 6)))) else (none)) else (none)) else (none)) else (none)) else (none)) else (none)) else (none)) else (none)) else (none)) = some (r1, r2, r3, r4, r5, r6, r7, r8, r9, r10) := by rw [if_pos rfl] at H; exact H
    clear H
    have H := H1
    clear H1
    by_cases c4 : 0 < (t163.length : Int)
    ·
     rw [if_pos c4] at H
     have c4b0 : decide (0 < (t163.length : Int)) = true := decide_eq_true c4
     have c4b1 : decide (0 < t163.length) = true := decide_eq_true (by omega)
     clear c4
     by_cases c5 : 0 < (t170.length : Int)
     ·
      rw [if_pos c5] at H
      have c5b0 : decide (0 < (t170.length : Int)) = true := decide_eq_true c5
      have c5b1 : decide (0 < t170.length) = true := decide_eq_true (by omega)
      clear c5
      by_cases c6 : 1 < (t170.length : Int)
      ·
       rw [if_pos c6] at H
       have c6b0 : decide (1 < (t170.length : Int)) = true := decide_eq_true c6
       have c6b1 : decide (1 < t170.length) = true := decide_eq_true (by omega)
       clear c6
       by_cases c7 : 2 < (t170.length : Int)
       ·
        rw [if_pos c7] at H
        have c7b0 : decide (2 < (t170.length : Int)) = true := decide_eq_true c7
        have c7b1 : decide (2 < t170.length) = true := decide_eq_true (by omega)
        clear c7
        by_cases c8 : 3 < (t170.length : Int)
        ·
         rw [if_pos c8] at H
         have c8b0 : decide (3 < (t170.length : Int)) = true := decide_eq_true c8
         have c8b1 : decide (3 < t170.length) = true := decide_eq_true (by omega)
         clear c8
         by_cases c9 : 4 < (t170.length : Int)
         ·
          rw [if_pos c9] at H
          have c9b0 : decide (4 < (t170.length : Int)) = true := decide_eq_true c9
          have c9b1 : decide (4 < t170.length) = true := decide_eq_true (by omega)
          clear c9
          by_cases c10 : 5 < (t170.length : Int)
          ·
           rw [if_pos c10] at H
           have c10b0 : decide (5 < (t170.length : Int)) = true := decide_eq_true c10
           have c10b1 : decide (5 < t170.length) = true := decide_eq_true (by omega)
           clear c10
           by_cases c11 : 6 < (t170.length : Int)
           ·
            rw [if_pos c11] at H
            have c11b0 : decide (6 < (t170.length : Int)) = true := decide_eq_true c11
            have c11b1 : decide (6 < t170.length) = true := decide_eq_true (by omega)
            clear c11
            by_cases c12 : 7 < (t170.length : Int)
            ·
             rw [if_pos c12] at H
             have c12b0 : decide (7 < (t170.length : Int)) = true := decide_eq_true c12
             have c12b1 : decide (7 < t170.length) = true := decide_eq_true (by omega)
             clear c12
             replace H := Option.bind_eq_some_iff.mp H
             obtain ⟨t181, A130, H⟩ := H
             replace H : (if t181 = true then (some (rdOf ByteArray.empty t163 0, rd t170 0, rd t170 1, rd t170 2, rd t170 3, rd t170 4, rd t170 5, rd t170 6, rd t170 7, 0)) else (some ((⟨#[]⟩ : ByteArray), 0, 0, 0, 0, 0, 0, 0, 0, 6))) = some (r1, r2, r3, r4, r5, r6, r7, r8, r9, r10) := H
             have A13 := Aside0.mk A130
             clear A130
             by_cases c14 : t181 = true
             ·
              subst c14
              have H1 : (some (rdOf ByteArray.empty t163 0, rd t170 0, rd t170 1, rd t170 2, rd t170 3, rd t170 4, rd t170 5, rd t170 6, rd t170 7, 0)) = some (r1, r2, r3, r4, r5, r6, r7, r8, r9, r10) := by rw [if_pos rfl] at H; exact H
              clear H
              have H := H1
              clear H1
              simp only [Option.some.injEq, Prod.mk.injEq] at H
              obtain ⟨rfl, rfl, rfl, rfl, rfl, rfl, rfl, rfl, rfl, rfl⟩ := H
              go_enter Try.func25, Try.ntmps25
              go_wp2_with (first | ((with_reducible refine gate_dst (N := 2) rfl ?_); refine box_event ?hg (N := 2) ?hd (cs := #[.string (⟨#[]⟩ : ByteArray), .int .i64 0, .int .i64 0, .int .i64 0, .int .i64 0, .int .i64 0, .int .i64 0, .int .i64 0, .int .i64 0]) (t := 26) ?hr ?_; (case hd => rfl); (case hg => rfl); (case hr => first | (go_simp; done) | (go_simp; rfl)); intro gb162 hg w7 hbox hb; have n0_ := Aside0.mk (below_step (by repeat (first | (with_reducible first | exact HB.out | apply lA | apply lN | apply lD) | exact HB.out)) hb); have n1_ := Aside0.mk (hbox); have n2_ := Aside0.mk ((by rw [hg]; exact (below_size (by repeat (first | (with_reducible first | exact HB.out | apply lA | apply lN | apply lD) | exact HB.out))) : w.heap.size ≤ gb162)); have n3_ := Aside0.mk ((by rw [hg]; exact (below_size (by repeat (first | (with_reducible first | exact HB.out | apply lA | apply lN | apply lD) | exact HB.out))) : w.heap.size ≤ gb162)); clear HB; have HB := n0_; have BK162 := n1_; have GW162 := n2_; have GE162 := n3_; clear n0_ n1_ n2_ n3_; clear hb hbox hg) | ((with_reducible refine gate_callee (f := 72) rfl ?_); refine goesL_ (some 9) rfl rfl Try.func72 (by kernel_rfl) rfl #[.string a0, .int .u8 47] rfl (by (try simp only [List.map_toArray, List.map_cons, List.map_nil]); first | done | rfl | (go_simp; done) | simp) ?_; (with_reducible refine (spec_l01Split.calls k a0 47 t163 _ A2.out).mono ?_); rintro e w8 ⟨v164, rfl, ho0, hb⟩; refine ⟨_, rfl, ?_⟩; have n0_ := Aside0.mk (Kd.R_lower ho0 (below_size (by repeat (first | (with_reducible first | exact HB.out | apply lA | apply lN | apply lD | refine below_set ?_ GE162.out) | exact HB.out)))); have n1_ := Aside0.mk (blk_below (g := gb162) (o := .cells #[.string (⟨#[]⟩ : ByteArray), .int .i64 0, .int .i64 0, .int .i64 0, .int .i64 0, .int .i64 0, .int .i64 0, .int .i64 0, .int .i64 0] 26 (0, 0)) (by (with_reducible repeat first | apply bN | apply bD | apply bA); exact BK162.out) hb); have n2_ := Aside0.mk (below_step (by repeat (first | (with_reducible first | exact HB.out | apply lA | apply lN | apply lD | refine below_set ?_ GE162.out) | exact HB.out)) hb); clear BK162; clear HB; have HO165 := n0_; have BK162 := n1_; have HB := n2_; clear n0_ n1_ n2_; (try clear hb); (try clear hb2); (try clear hk); (try clear hi); (try clear ho0); obtain ⟨Ao9, co9, eo9⟩ := Kd.R_slice HO165.out; subst eo9; have q10 : (1 : Int) ≤ ((t163.length : Int) : Int) := of_decide_eq_true (by with_reducible assumption); obtain ⟨i010, hi010, _, hsz10, _⟩ := info_parts info9; have hroom10 : t163.length ≤ co9 := (Kd.R_reads' HO165.out).2.1; have hC10 : Kd.C Kd.string _ Ao9 t163.length t163 := (Kd.R_reads' HO165.out).2.2; have hcut10 := cut_from (P := Try.prog) 82 9 .i64 Try.underlying82 hi010 1 hsz10 Ao9 t163.length co9 1 (by omega) q10; have hr10 := Kd.C_drop (m := (1 : Int).toNat) (c := co9) hC10 (by omega) hroom10; obtain ⟨A10, hA10⟩ : ∃ A1, A1 = (if co9 = (1 : Int).toNat then Ao9 else (Ao9 : Option Addr).map (·.add ((1 : Int).toNat * 1))) := ⟨_, rfl⟩; obtain ⟨c10, hc10⟩ : ∃ c1, c1 = co9 - (1 : Int).toNat := ⟨_, rfl⟩; have hy10 : y166.length = t163.length - (1 : Int).toNat := (by rw [Ny166.out, List.length_drop] <;> omega); rw [show (t163).drop (1 : Int).toNat = y166 from Ny166.out.symm] at hr10; replace hr10 : Kd.C Kd.string _ A10 y166.length y166 := (by rw [hA10]; exact hr10); rw [← hy10, ← hA10, ← hc10] at hcut10; have HR169 := Aside0.mk hr10; have HC169 := Aside0.mk (show y166.length ≤ c10 from by rw [hy10, hc10]; exact Nat.sub_le_sub_right hroom10 _); clear hr10 hC10 hroom10 hi010 hsz10 hc10; have KY10 := Aside0.mk hy10; have KA10 := Aside0.mk hA10; clear hy10 hA10; have KL10 := Aside0.mk (show 1 ≤ t163.length from by omega); replace q10 := eq_true q10) | ((with_reducible refine gate_callee (f := 73) rfl ?_); refine goesL_ (some 17) rfl rfl Try.func73 (by kernel_rfl) rfl #[.slice A10 y166.length c10] rfl (by (try simp only [List.map_toArray, List.map_cons, List.map_nil]); first | done | rfl | (go_simp; done) | simp) ?_; (with_reducible refine (spec_l01Numbers.calls k _ _ y166 t170 true _ ?side1 ?side2 A5.out).mono ?_); (case side1 => repeat (first | exact (by repeat (first | (with_reducible exact HR169.out) | (with_reducible first | apply cA | apply cN | apply cD) | exact HR169.out)) | (with_reducible first | apply cA | apply cN | apply cD))); (case side2 => exact HC169.out); rintro e w11 ⟨v172, rfl, ho0, hb⟩; refine ⟨_, rfl, ?_⟩; have n0_ := Aside0.mk (Kd.R_below (by (with_reducible repeat (first | apply rA | apply rN | apply rD)); exact HO165.out) hb); have n1_ := Aside0.mk (Kd.R_lower ho0 (below_size (by repeat (first | (with_reducible first | exact HB.out | apply lA | apply lN | apply lD | refine below_set ?_ GE162.out) | exact HB.out)))); have n2_ := Aside0.mk (blk_below (g := gb162) (o := .cells #[.string (⟨#[]⟩ : ByteArray), .int .i64 0, .int .i64 0, .int .i64 0, .int .i64 0, .int .i64 0, .int .i64 0, .int .i64 0, .int .i64 0] 26 (0, 0)) (by (with_reducible repeat first | apply bN | apply bD | apply bA); exact BK162.out) hb); have n3_ := Aside0.mk (Kd.C_below (by repeat (first | (with_reducible exact HR169.out) | (with_reducible first | apply cA | apply cN | apply cD) | exact HR169.out)) hb); have n4_ := Aside0.mk (below_step (by repeat (first | (with_reducible first | exact HB.out | apply lA | apply lN | apply lD | refine below_set ?_ GE162.out) | exact HB.out)) hb); clear HO165; clear BK162; clear HR169; clear HB; have HO165 := n0_; have HO173 := n1_; have BK162 := n2_; have HR169 := n3_; have HB := n4_; clear n0_ n1_ n2_ n3_ n4_; (try clear hb); (try clear hb2); (try clear hk); (try clear hi); (try clear ho0); have hcz12_0 : w11.cell? ⟨gb162, 0, none⟩ = some (.string (⟨#[]⟩ : ByteArray)) := (blk_cell BK162.out 0).trans rfl; have hcz12_1 : w11.cell? ⟨gb162, 1, none⟩ = some (.int .i64 0) := (blk_cell BK162.out 1).trans rfl; have hcz12_2 : w11.cell? ⟨gb162, 2, none⟩ = some (.int .i64 0) := (blk_cell BK162.out 2).trans rfl; have hcz12_3 : w11.cell? ⟨gb162, 3, none⟩ = some (.int .i64 0) := (blk_cell BK162.out 3).trans rfl; have hcz12_4 : w11.cell? ⟨gb162, 4, none⟩ = some (.int .i64 0) := (blk_cell BK162.out 4).trans rfl; have hcz12_5 : w11.cell? ⟨gb162, 5, none⟩ = some (.int .i64 0) := (blk_cell BK162.out 5).trans rfl; have hcz12_6 : w11.cell? ⟨gb162, 6, none⟩ = some (.int .i64 0) := (blk_cell BK162.out 6).trans rfl; have hcz12_7 : w11.cell? ⟨gb162, 7, none⟩ = some (.int .i64 0) := (blk_cell BK162.out 7).trans rfl; have hcz12_8 : w11.cell? ⟨gb162, 8, none⟩ = some (.int .i64 0) := (blk_cell BK162.out 8).trans rfl; have hfz12_0 := blk_frozen BK162.out 0; have hfz12_1 := blk_frozen BK162.out 1; have hfz12_2 := blk_frozen BK162.out 2; have hfz12_3 := blk_frozen BK162.out 3; have hfz12_4 := blk_frozen BK162.out 4; have hfz12_5 := blk_frozen BK162.out 5; have hfz12_6 := blk_frozen BK162.out 6; have hfz12_7 := blk_frozen BK162.out 7; have hfz12_8 := blk_frozen BK162.out 8))
              obtain ⟨A2_, c2_, e2_⟩ := Kd.R_slice HO173.out
              subst e2_
              have HR1 := Aside0.mk (Kd.R_reads' HO165.out).2.2
              have HR2 := Aside0.mk (Kd.R_reads' HO173.out).2.2
              have HBQ := Aside0.mk (below_drew1 (Below.refl w11.heap.size w11))
              clear HO165 HO173 HR169
              have n0_ := Aside0.mk (blk_drew BK162.out)
              have n1_ := Aside0.mk (below_drew1 HB.out)
              clear BK162
              clear HB
              have BK162 := n0_
              have HB := n1_
              clear n0_ n1_
              have p171 : 0 ≤ (0 : Int) := (by omega)
              have q171 : 0 < (t163.length : Int) := of_decide_eq_true (by with_reducible assumption)
              obtain ⟨ad171, e171, hx171_0⟩ := Kd.at_string HR1.out 0 p171 q171
              have hw171_0 := hx171_0
              (try rw [show ((0 : Int)).toNat = 0 from rfl] at hw171_0)
              (try rw [show 0 * 1 = 0 from rfl] at hw171_0)
              (try rw [Addr.add_zero'] at hw171_0)
              cases e171
              have qi171 : (0 < t163.length) = True := eq_true (by omega)
              (try rw [show ((0 : Int)).toNat = 0 from rfl] at hx171_0)
              (try rw [Addr.add_zero'] at hx171_0)
              replace hx171_0 := (HBQ.out.cell (World.block_lt_of_cell? _ _ hx171_0)).trans hx171_0
              replace p171 := eq_true p171
              replace q171 := eq_true q171
              have p172 : 0 ≤ (0 : Int) := (by omega)
              have q172 : 0 < (t170.length : Int) := of_decide_eq_true (by with_reducible assumption)
              obtain ⟨ad172, e172, hx172_0⟩ := Kd.at_int HR2.out 0 p172 q172
              have hw172_0 := hx172_0
              (try rw [show ((0 : Int)).toNat = 0 from rfl] at hw172_0)
              (try rw [show 0 * 1 = 0 from rfl] at hw172_0)
              (try rw [Addr.add_zero'] at hw172_0)
              cases e172
              have qi172 : (0 < t170.length) = True := eq_true (by omega)
              (try rw [show ((0 : Int)).toNat = 0 from rfl] at hx172_0)
              (try rw [Addr.add_zero'] at hx172_0)
              replace hx172_0 := (HBQ.out.cell (World.block_lt_of_cell? _ _ hx172_0)).trans hx172_0
              replace p172 := eq_true p172
              replace q172 := eq_true q172
              have p173 : 0 ≤ (1 : Int) := (by omega)
              have q173 : 1 < (t170.length : Int) := of_decide_eq_true (by with_reducible assumption)
              obtain ⟨ad173, e173, hx173_0⟩ := Kd.at_int HR2.out 1 p173 q173
              have hw173_0 := hx173_0
              (try rw [show ((1 : Int)).toNat = 1 from rfl] at hw173_0)
              (try rw [show 1 * 1 = 1 from rfl] at hw173_0)
              (try simp only [Nat.reduceMul, Nat.reduceEqDiff, Go.Addr.add, ↓reduceIte] at hw173_0)
              obtain rfl : ad172 = ad173 := (by injection e173)
              (try simp only [show (1 : Int).toNat = 1 from rfl, Nat.reduceMul, Nat.reduceEqDiff, Go.Addr.add, ↓reduceIte] at hx173_0)
              have qi173 : (1 < t170.length) = True := eq_true (by omega)
              (try rw [show ((1 : Int)).toNat = 1 from rfl] at hx173_0)
              replace hx173_0 := (HBQ.out.cell (World.block_lt_of_cell? _ _ hx173_0)).trans hx173_0
              replace p173 := eq_true p173
              replace q173 := eq_true q173
              have p174 : 0 ≤ (2 : Int) := (by omega)
              have q174 : 2 < (t170.length : Int) := of_decide_eq_true (by with_reducible assumption)
              obtain ⟨ad174, e174, hx174_0⟩ := Kd.at_int HR2.out 2 p174 q174
              have hw174_0 := hx174_0
              (try rw [show ((2 : Int)).toNat = 2 from rfl] at hw174_0)
              (try rw [show 2 * 1 = 2 from rfl] at hw174_0)
              (try simp only [Nat.reduceMul, Nat.reduceEqDiff, Go.Addr.add, ↓reduceIte] at hw174_0)
              obtain rfl : ad172 = ad174 := (by injection e174)
              (try simp only [show (2 : Int).toNat = 2 from rfl, Nat.reduceMul, Nat.reduceEqDiff, Go.Addr.add, ↓reduceIte] at hx174_0)
              have qi174 : (2 < t170.length) = True := eq_true (by omega)
              (try rw [show ((2 : Int)).toNat = 2 from rfl] at hx174_0)
              replace hx174_0 := (HBQ.out.cell (World.block_lt_of_cell? _ _ hx174_0)).trans hx174_0
              replace p174 := eq_true p174
              replace q174 := eq_true q174
              have p175 : 0 ≤ (3 : Int) := (by omega)
              have q175 : 3 < (t170.length : Int) := of_decide_eq_true (by with_reducible assumption)
              obtain ⟨ad175, e175, hx175_0⟩ := Kd.at_int HR2.out 3 p175 q175
              have hw175_0 := hx175_0
              (try rw [show ((3 : Int)).toNat = 3 from rfl] at hw175_0)
              (try rw [show 3 * 1 = 3 from rfl] at hw175_0)
              (try simp only [Nat.reduceMul, Nat.reduceEqDiff, Go.Addr.add, ↓reduceIte] at hw175_0)
              obtain rfl : ad172 = ad175 := (by injection e175)
              (try simp only [show (3 : Int).toNat = 3 from rfl, Nat.reduceMul, Nat.reduceEqDiff, Go.Addr.add, ↓reduceIte] at hx175_0)
              have qi175 : (3 < t170.length) = True := eq_true (by omega)
              (try rw [show ((3 : Int)).toNat = 3 from rfl] at hx175_0)
              replace hx175_0 := (HBQ.out.cell (World.block_lt_of_cell? _ _ hx175_0)).trans hx175_0
              replace p175 := eq_true p175
              replace q175 := eq_true q175
              have p176 : 0 ≤ (4 : Int) := (by omega)
              have q176 : 4 < (t170.length : Int) := of_decide_eq_true (by with_reducible assumption)
              obtain ⟨ad176, e176, hx176_0⟩ := Kd.at_int HR2.out 4 p176 q176
              have hw176_0 := hx176_0
              (try rw [show ((4 : Int)).toNat = 4 from rfl] at hw176_0)
              (try rw [show 4 * 1 = 4 from rfl] at hw176_0)
              (try simp only [Nat.reduceMul, Nat.reduceEqDiff, Go.Addr.add, ↓reduceIte] at hw176_0)
              obtain rfl : ad172 = ad176 := (by injection e176)
              (try simp only [show (4 : Int).toNat = 4 from rfl, Nat.reduceMul, Nat.reduceEqDiff, Go.Addr.add, ↓reduceIte] at hx176_0)
              have qi176 : (4 < t170.length) = True := eq_true (by omega)
              (try rw [show ((4 : Int)).toNat = 4 from rfl] at hx176_0)
              replace hx176_0 := (HBQ.out.cell (World.block_lt_of_cell? _ _ hx176_0)).trans hx176_0
              replace p176 := eq_true p176
              replace q176 := eq_true q176
              have p177 : 0 ≤ (5 : Int) := (by omega)
              have q177 : 5 < (t170.length : Int) := of_decide_eq_true (by with_reducible assumption)
              obtain ⟨ad177, e177, hx177_0⟩ := Kd.at_int HR2.out 5 p177 q177
              have hw177_0 := hx177_0
              (try rw [show ((5 : Int)).toNat = 5 from rfl] at hw177_0)
              (try rw [show 5 * 1 = 5 from rfl] at hw177_0)
              (try simp only [Nat.reduceMul, Nat.reduceEqDiff, Go.Addr.add, ↓reduceIte] at hw177_0)
              obtain rfl : ad172 = ad177 := (by injection e177)
              (try simp only [show (5 : Int).toNat = 5 from rfl, Nat.reduceMul, Nat.reduceEqDiff, Go.Addr.add, ↓reduceIte] at hx177_0)
              have qi177 : (5 < t170.length) = True := eq_true (by omega)
              (try rw [show ((5 : Int)).toNat = 5 from rfl] at hx177_0)
              replace hx177_0 := (HBQ.out.cell (World.block_lt_of_cell? _ _ hx177_0)).trans hx177_0
              replace p177 := eq_true p177
              replace q177 := eq_true q177
              have p178 : 0 ≤ (6 : Int) := (by omega)
              have q178 : 6 < (t170.length : Int) := of_decide_eq_true (by with_reducible assumption)
              obtain ⟨ad178, e178, hx178_0⟩ := Kd.at_int HR2.out 6 p178 q178
              have hw178_0 := hx178_0
              (try rw [show ((6 : Int)).toNat = 6 from rfl] at hw178_0)
              (try rw [show 6 * 1 = 6 from rfl] at hw178_0)
              (try simp only [Nat.reduceMul, Nat.reduceEqDiff, Go.Addr.add, ↓reduceIte] at hw178_0)
              obtain rfl : ad172 = ad178 := (by injection e178)
              (try simp only [show (6 : Int).toNat = 6 from rfl, Nat.reduceMul, Nat.reduceEqDiff, Go.Addr.add, ↓reduceIte] at hx178_0)
              have qi178 : (6 < t170.length) = True := eq_true (by omega)
              (try rw [show ((6 : Int)).toNat = 6 from rfl] at hx178_0)
              replace hx178_0 := (HBQ.out.cell (World.block_lt_of_cell? _ _ hx178_0)).trans hx178_0
              replace p178 := eq_true p178
              replace q178 := eq_true q178
              have p179 : 0 ≤ (7 : Int) := (by omega)
              have q179 : 7 < (t170.length : Int) := of_decide_eq_true (by with_reducible assumption)
              obtain ⟨ad179, e179, hx179_0⟩ := Kd.at_int HR2.out 7 p179 q179
              have hw179_0 := hx179_0
              (try rw [show ((7 : Int)).toNat = 7 from rfl] at hw179_0)
              (try rw [show 7 * 1 = 7 from rfl] at hw179_0)
              (try simp only [Nat.reduceMul, Nat.reduceEqDiff, Go.Addr.add, ↓reduceIte] at hw179_0)
              obtain rfl : ad172 = ad179 := (by injection e179)
              (try simp only [show (7 : Int).toNat = 7 from rfl, Nat.reduceMul, Nat.reduceEqDiff, Go.Addr.add, ↓reduceIte] at hx179_0)
              have qi179 : (7 < t170.length) = True := eq_true (by omega)
              (try rw [show ((7 : Int)).toNat = 7 from rfl] at hx179_0)
              replace hx179_0 := (HBQ.out.cell (World.block_lt_of_cell? _ _ hx179_0)).trans hx179_0
              replace p179 := eq_true p179
              replace q179 := eq_true q179
              refine start_ (n := 30) (S := fun w' => w'.cell? ad171 = some (.string (rdOf ByteArray.empty t163 0)) ∧ w'.cell? ad172 = some (.int .i64 (rd t170 0)) ∧ w'.cell? ⟨ad172.block, ad172.off + 1, none⟩ = some (.int .i64 (rd t170 1)) ∧ w'.cell? ⟨ad172.block, ad172.off + 2, none⟩ = some (.int .i64 (rd t170 2)) ∧ w'.cell? ⟨ad172.block, ad172.off + 3, none⟩ = some (.int .i64 (rd t170 3)) ∧ w'.cell? ⟨ad172.block, ad172.off + 4, none⟩ = some (.int .i64 (rd t170 4)) ∧ w'.cell? ⟨ad172.block, ad172.off + 5, none⟩ = some (.int .i64 (rd t170 5)) ∧ w'.cell? ⟨ad172.block, ad172.off + 6, none⟩ = some (.int .i64 (rd t170 6)) ∧ w'.cell? ⟨ad172.block, ad172.off + 7, none⟩ = some (.int .i64 (rd t170 7))) (ds := []) #[false, false, false, false, false, false, false, false, false, false, false, false, false, false, false, false, false, false, false, false, false, false, false, false, false, false, false, false, false, false] (by kernel_rfl) rfl rfl ⟨((HBQ.out.cell (World.block_lt_of_cell? _ _ hw171_0)).trans hw171_0), ((HBQ.out.cell (World.block_lt_of_cell? _ _ hw172_0)).trans hw172_0), ((HBQ.out.cell (World.block_lt_of_cell? _ _ hw173_0)).trans hw173_0), ((HBQ.out.cell (World.block_lt_of_cell? _ _ hw174_0)).trans hw174_0), ((HBQ.out.cell (World.block_lt_of_cell? _ _ hw175_0)).trans hw175_0), ((HBQ.out.cell (World.block_lt_of_cell? _ _ hw176_0)).trans hw176_0), ((HBQ.out.cell (World.block_lt_of_cell? _ _ hw177_0)).trans hw177_0), ((HBQ.out.cell (World.block_lt_of_cell? _ _ hw178_0)).trans hw178_0), ((HBQ.out.cell (World.block_lt_of_cell? _ _ hw179_0)).trans hw179_0)⟩ (fun hHeld => ?_); refine with_tabW spec_ReadArticle.tab7 spec_ReadArticle.bits7 (fun HT_ HW_ => ?_)
              generalize w11.drew = w16 at BK162 HB HBQ hx171_0 hx172_0 hx173_0 hx174_0 hx175_0 hx176_0 hx177_0 hx178_0 hx179_0 hHeld ⊢
              refine pure_ (i := 0) (N := some 23) (v := ?_) (a' := ?_) #[true, false, false, false, false, false, false, false, false, false, false, false, false, false, false, false, false, false, false, false, false, false, false, false, false, false, false, false, false, false] rfl rfl (any_of HT_.out (by kernel_rfl)) (fun _ _ _ h => h) (Or.inl ⟨by rfl, ?_⟩) ?_ ?_
              rotate_left
              ·
               intro w'
               go_simp
               with_reducible rfl
              rotate_left
              ·
               simp only [Act.put, sT, s0, sS, i64_w, i32_w]
               rfl
              refine pure_ (i := 1) (N := some 24) (v := ?_) (a' := ?_) #[true, true, false, false, false, false, false, false, false, false, false, false, false, false, false, false, false, false, false, false, false, false, false, false, false, false, false, false, false, false] rfl rfl (any_of HT_.out (by kernel_rfl)) (fun _ _ _ h => h) (Or.inl ⟨by rfl, ?_⟩) ?_ ?_
              rotate_left
              ·
               intro w'
               go_simp
               with_reducible rfl
              rotate_left
              ·
               simp only [Act.put, sT, s0, sS, i64_w, i32_w]
               rfl
              refine pure_ (i := 3) (N := some 26) (v := ?_) (a' := ?_) #[true, true, false, true, false, false, false, false, false, false, false, false, false, false, false, false, false, false, false, false, false, false, false, false, false, false, false, false, false, false] rfl rfl (any_of HT_.out (by kernel_rfl)) (fun _ _ _ h => h) (Or.inl ⟨by rfl, ?_⟩) ?_ ?_
              rotate_left
              ·
               intro w'
               go_simp
               with_reducible rfl
              rotate_left
              ·
               simp only [Act.put, sT, s0, sS, i64_w, i32_w]
               rfl
              refine pure_ (i := 4) (N := some 27) (v := ?_) (a' := ?_) #[true, true, false, true, true, false, false, false, false, false, false, false, false, false, false, false, false, false, false, false, false, false, false, false, false, false, false, false, false, false] rfl rfl (any_of HT_.out (by kernel_rfl)) (fun _ _ _ h => h) (Or.inl ⟨by rfl, ?_⟩) ?_ ?_
              rotate_left
              ·
               intro w'
               go_simp
               with_reducible rfl
              rotate_left
              ·
               simp only [Act.put, sT, s0, sS, i64_w, i32_w]
               rfl
              refine pure_ (i := 6) (N := some 29) (v := ?_) (a' := ?_) #[true, true, false, true, true, false, true, false, false, false, false, false, false, false, false, false, false, false, false, false, false, false, false, false, false, false, false, false, false, false] rfl rfl (any_of HT_.out (by kernel_rfl)) (fun _ _ _ h => h) (Or.inl ⟨by rfl, ?_⟩) ?_ ?_
              rotate_left
              ·
               intro w'
               go_simp
               with_reducible rfl
              rotate_left
              ·
               simp only [Act.put, sT, s0, sS, i64_w, i32_w]
               rfl
              refine pure_ (i := 7) (N := some 30) (v := ?_) (a' := ?_) #[true, true, false, true, true, false, true, true, false, false, false, false, false, false, false, false, false, false, false, false, false, false, false, false, false, false, false, false, false, false] rfl rfl (any_of HT_.out (by kernel_rfl)) (fun _ _ _ h => h) (Or.inl ⟨by rfl, ?_⟩) ?_ ?_
              rotate_left
              ·
               intro w'
               go_simp
               with_reducible rfl
              rotate_left
              ·
               simp only [Act.put, sT, s0, sS, i64_w, i32_w]
               rfl
              refine pure_ (i := 9) (N := some 32) (v := ?_) (a' := ?_) #[true, true, false, true, true, false, true, true, false, true, false, false, false, false, false, false, false, false, false, false, false, false, false, false, false, false, false, false, false, false] rfl rfl (any_of HT_.out (by kernel_rfl)) (fun _ _ _ h => h) (Or.inl ⟨by rfl, ?_⟩) ?_ ?_
              rotate_left
              ·
               intro w'
               go_simp
               with_reducible rfl
              rotate_left
              ·
               simp only [Act.put, sT, s0, sS, i64_w, i32_w]
               rfl
              refine pure_ (i := 10) (N := some 33) (v := ?_) (a' := ?_) #[true, true, false, true, true, false, true, true, false, true, true, false, false, false, false, false, false, false, false, false, false, false, false, false, false, false, false, false, false, false] rfl rfl (any_of HT_.out (by kernel_rfl)) (fun _ _ _ h => h) (Or.inl ⟨by rfl, ?_⟩) ?_ ?_
              rotate_left
              ·
               intro w'
               go_simp
               with_reducible rfl
              rotate_left
              ·
               simp only [Act.put, sT, s0, sS, i64_w, i32_w]
               rfl
              refine pure_ (i := 12) (N := some 35) (v := ?_) (a' := ?_) #[true, true, false, true, true, false, true, true, false, true, true, false, true, false, false, false, false, false, false, false, false, false, false, false, false, false, false, false, false, false] rfl rfl (any_of HT_.out (by kernel_rfl)) (fun _ _ _ h => h) (Or.inl ⟨by rfl, ?_⟩) ?_ ?_
              rotate_left
              ·
               intro w'
               go_simp
               with_reducible rfl
              rotate_left
              ·
               simp only [Act.put, sT, s0, sS, i64_w, i32_w]
               rfl
              refine pure_ (i := 13) (N := some 36) (v := ?_) (a' := ?_) #[true, true, false, true, true, false, true, true, false, true, true, false, true, true, false, false, false, false, false, false, false, false, false, false, false, false, false, false, false, false] rfl rfl (any_of HT_.out (by kernel_rfl)) (fun _ _ _ h => h) (Or.inl ⟨by rfl, ?_⟩) ?_ ?_
              rotate_left
              ·
               intro w'
               go_simp
               with_reducible rfl
              rotate_left
              ·
               simp only [Act.put, sT, s0, sS, i64_w, i32_w]
               rfl
              refine pure_ (i := 15) (N := some 38) (v := ?_) (a' := ?_) #[true, true, false, true, true, false, true, true, false, true, true, false, true, true, false, true, false, false, false, false, false, false, false, false, false, false, false, false, false, false] rfl rfl (any_of HT_.out (by kernel_rfl)) (fun _ _ _ h => h) (Or.inl ⟨by rfl, ?_⟩) ?_ ?_
              rotate_left
              ·
               intro w'
               go_simp
               with_reducible rfl
              rotate_left
              ·
               simp only [Act.put, sT, s0, sS, i64_w, i32_w]
               rfl
              refine pure_ (i := 16) (N := some 39) (v := ?_) (a' := ?_) #[true, true, false, true, true, false, true, true, false, true, true, false, true, true, false, true, true, false, false, false, false, false, false, false, false, false, false, false, false, false] rfl rfl (any_of HT_.out (by kernel_rfl)) (fun _ _ _ h => h) (Or.inl ⟨by rfl, ?_⟩) ?_ ?_
              rotate_left
              ·
               intro w'
               go_simp
               with_reducible rfl
              rotate_left
              ·
               simp only [Act.put, sT, s0, sS, i64_w, i32_w]
               rfl
              refine pure_ (i := 18) (N := some 41) (v := ?_) (a' := ?_) #[true, true, false, true, true, false, true, true, false, true, true, false, true, true, false, true, true, false, true, false, false, false, false, false, false, false, false, false, false, false] rfl rfl (any_of HT_.out (by kernel_rfl)) (fun _ _ _ h => h) (Or.inl ⟨by rfl, ?_⟩) ?_ ?_
              rotate_left
              ·
               intro w'
               go_simp
               with_reducible rfl
              rotate_left
              ·
               simp only [Act.put, sT, s0, sS, i64_w, i32_w]
               rfl
              refine pure_ (i := 19) (N := some 42) (v := ?_) (a' := ?_) #[true, true, false, true, true, false, true, true, false, true, true, false, true, true, false, true, true, false, true, true, false, false, false, false, false, false, false, false, false, false] rfl rfl (any_of HT_.out (by kernel_rfl)) (fun _ _ _ h => h) (Or.inl ⟨by rfl, ?_⟩) ?_ ?_
              rotate_left
              ·
               intro w'
               go_simp
               with_reducible rfl
              rotate_left
              ·
               simp only [Act.put, sT, s0, sS, i64_w, i32_w]
               rfl
              refine pure_ (i := 21) (N := some 44) (v := ?_) (a' := ?_) #[true, true, false, true, true, false, true, true, false, true, true, false, true, true, false, true, true, false, true, true, false, true, false, false, false, false, false, false, false, false] rfl rfl (any_of HT_.out (by kernel_rfl)) (fun _ _ _ h => h) (Or.inl ⟨by rfl, ?_⟩) ?_ ?_
              rotate_left
              ·
               intro w'
               go_simp
               with_reducible rfl
              rotate_left
              ·
               simp only [Act.put, sT, s0, sS, i64_w, i32_w]
               rfl
              refine pure_ (i := 22) (N := some 45) (v := ?_) (a' := ?_) #[true, true, false, true, true, false, true, true, false, true, true, false, true, true, false, true, true, false, true, true, false, true, true, false, false, false, false, false, false, false] rfl rfl (any_of HT_.out (by kernel_rfl)) (fun _ _ _ h => h) (Or.inl ⟨by rfl, ?_⟩) ?_ ?_
              rotate_left
              ·
               intro w'
               go_simp
               with_reducible rfl
              rotate_left
              ·
               simp only [Act.put, sT, s0, sS, i64_w, i32_w]
               rfl
              refine pure_ (i := 24) (N := some 47) (v := ?_) (a' := ?_) #[true, true, false, true, true, false, true, true, false, true, true, false, true, true, false, true, true, false, true, true, false, true, true, false, true, false, false, false, false, false] rfl rfl (any_of HT_.out (by kernel_rfl)) (fun _ _ _ h => h) (Or.inl ⟨by rfl, ?_⟩) ?_ ?_
              rotate_left
              ·
               intro w'
               go_simp
               with_reducible rfl
              rotate_left
              ·
               simp only [Act.put, sT, s0, sS, i64_w, i32_w]
               rfl
              refine pure_ (i := 25) (N := some 48) (v := ?_) (a' := ?_) #[true, true, false, true, true, false, true, true, false, true, true, false, true, true, false, true, true, false, true, true, false, true, true, false, true, true, false, false, false, false] rfl rfl (any_of HT_.out (by kernel_rfl)) (fun _ _ _ h => h) (Or.inl ⟨by rfl, ?_⟩) ?_ ?_
              rotate_left
              ·
               intro w'
               go_simp
               with_reducible rfl
              rotate_left
              ·
               simp only [Act.put, sT, s0, sS, i64_w, i32_w]
               rfl
              refine take_ (i := 2) (N := some 25) (v := ?_) (a' := ?_) #[true, true, true, true, true, false, true, true, false, true, true, false, true, true, false, true, true, false, true, true, false, true, true, false, true, true, false, false, false, false] rfl rfl (take_ofW HT_.out HW_.out (by kernel_rfl)) (fun _ _ _ h => h) (Or.inl ⟨by rfl, ?_⟩) hHeld ?_ ?_
              rotate_left
              ·
               rintro w' ⟨s0, s1, s2, s3, s4, s5, s6, s7, s8⟩
               go_simp
               with_reducible rfl
              rotate_left
              ·
               simp only [Act.put, sT, s0, sS, i64_w, i32_w]
               rfl
              refine take_ (i := 5) (N := some 28) (v := ?_) (a' := ?_) #[true, true, true, true, true, true, true, true, false, true, true, false, true, true, false, true, true, false, true, true, false, true, true, false, true, true, false, false, false, false] rfl rfl (take_ofW HT_.out HW_.out (by kernel_rfl)) (fun _ _ _ h => h) (Or.inl ⟨by rfl, ?_⟩) hHeld ?_ ?_
              rotate_left
              ·
               rintro w' ⟨s0, s1, s2, s3, s4, s5, s6, s7, s8⟩
               go_simp
               with_reducible rfl
              rotate_left
              ·
               simp only [Act.put, sT, s0, sS, i64_w, i32_w]
               rfl
              refine take_ (i := 8) (N := some 31) (v := ?_) (a' := ?_) #[true, true, true, true, true, true, true, true, true, true, true, false, true, true, false, true, true, false, true, true, false, true, true, false, true, true, false, false, false, false] rfl rfl (take_ofW HT_.out HW_.out (by kernel_rfl)) (fun _ _ _ h => h) (Or.inl ⟨by rfl, ?_⟩) hHeld ?_ ?_
              rotate_left
              ·
               rintro w' ⟨s0, s1, s2, s3, s4, s5, s6, s7, s8⟩
               go_simp
               with_reducible rfl
              rotate_left
              ·
               simp only [Act.put, sT, s0, sS, i64_w, i32_w]
               rfl
              refine take_ (i := 11) (N := some 34) (v := ?_) (a' := ?_) #[true, true, true, true, true, true, true, true, true, true, true, true, true, true, false, true, true, false, true, true, false, true, true, false, true, true, false, false, false, false] rfl rfl (take_ofW HT_.out HW_.out (by kernel_rfl)) (fun _ _ _ h => h) (Or.inl ⟨by rfl, ?_⟩) hHeld ?_ ?_
              rotate_left
              ·
               rintro w' ⟨s0, s1, s2, s3, s4, s5, s6, s7, s8⟩
               go_simp
               with_reducible rfl
              rotate_left
              ·
               simp only [Act.put, sT, s0, sS, i64_w, i32_w]
               rfl
              refine take_ (i := 14) (N := some 37) (v := ?_) (a' := ?_) #[true, true, true, true, true, true, true, true, true, true, true, true, true, true, true, true, true, false, true, true, false, true, true, false, true, true, false, false, false, false] rfl rfl (take_ofW HT_.out HW_.out (by kernel_rfl)) (fun _ _ _ h => h) (Or.inl ⟨by rfl, ?_⟩) hHeld ?_ ?_
              rotate_left
              ·
               rintro w' ⟨s0, s1, s2, s3, s4, s5, s6, s7, s8⟩
               go_simp
               with_reducible rfl
              rotate_left
              ·
               simp only [Act.put, sT, s0, sS, i64_w, i32_w]
               rfl
              refine take_ (i := 17) (N := some 40) (v := ?_) (a' := ?_) #[true, true, true, true, true, true, true, true, true, true, true, true, true, true, true, true, true, true, true, true, false, true, true, false, true, true, false, false, false, false] rfl rfl (take_ofW HT_.out HW_.out (by kernel_rfl)) (fun _ _ _ h => h) (Or.inl ⟨by rfl, ?_⟩) hHeld ?_ ?_
              rotate_left
              ·
               rintro w' ⟨s0, s1, s2, s3, s4, s5, s6, s7, s8⟩
               go_simp
               with_reducible rfl
              rotate_left
              ·
               simp only [Act.put, sT, s0, sS, i64_w, i32_w]
               rfl
              refine take_ (i := 20) (N := some 43) (v := ?_) (a' := ?_) #[true, true, true, true, true, true, true, true, true, true, true, true, true, true, true, true, true, true, true, true, true, true, true, false, true, true, false, false, false, false] rfl rfl (take_ofW HT_.out HW_.out (by kernel_rfl)) (fun _ _ _ h => h) (Or.inl ⟨by rfl, ?_⟩) hHeld ?_ ?_
              rotate_left
              ·
               rintro w' ⟨s0, s1, s2, s3, s4, s5, s6, s7, s8⟩
               go_simp
               with_reducible rfl
              rotate_left
              ·
               simp only [Act.put, sT, s0, sS, i64_w, i32_w]
               rfl
              refine take_ (i := 23) (N := some 46) (v := ?_) (a' := ?_) #[true, true, true, true, true, true, true, true, true, true, true, true, true, true, true, true, true, true, true, true, true, true, true, true, true, true, false, false, false, false] rfl rfl (take_ofW HT_.out HW_.out (by kernel_rfl)) (fun _ _ _ h => h) (Or.inl ⟨by rfl, ?_⟩) hHeld ?_ ?_
              rotate_left
              ·
               rintro w' ⟨s0, s1, s2, s3, s4, s5, s6, s7, s8⟩
               go_simp
               with_reducible rfl
              rotate_left
              ·
               simp only [Act.put, sT, s0, sS, i64_w, i32_w]
               rfl
              refine take_ (i := 26) (N := some 49) (v := ?_) (a' := ?_) #[true, true, true, true, true, true, true, true, true, true, true, true, true, true, true, true, true, true, true, true, true, true, true, true, true, true, true, false, false, false] rfl rfl (take_ofW HT_.out HW_.out (by kernel_rfl)) (fun _ _ _ h => h) (Or.inl ⟨by rfl, ?_⟩) hHeld ?_ ?_
              rotate_left
              ·
               rintro w' ⟨s0, s1, s2, s3, s4, s5, s6, s7, s8⟩
               go_simp
               with_reducible rfl
              rotate_left
              ·
               simp only [Act.put, sT, s0, sS, i64_w, i32_w]
               rfl
              refine pure_ (i := 27) (N := some 50) (v := ?_) (a' := ?_) #[true, true, true, true, true, true, true, true, true, true, true, true, true, true, true, true, true, true, true, true, true, true, true, true, true, true, true, true, false, false] rfl rfl (any_of HT_.out (by kernel_rfl)) (fun _ _ _ h => h) (Or.inl ⟨by rfl, ?_⟩) ?_ ?_
              rotate_left
              ·
               intro w'
               go_simp
               with_reducible rfl
              rotate_left
              ·
               simp only [Act.put, sT, s0, sS, i64_w, i32_w]
               rfl
              refine one_ (i := 28) (N := some 7) #[true, true, true, true, true, true, true, true, true, true, true, true, true, true, true, true, true, true, true, true, true, true, true, true, true, true, true, true, true, false] rfl rfl (one_of HT_.out (by kernel_rfl)) (by decide) (fun K hK => ?_)
              refine box_step ?hg (N := 7) ?hd (cs := #[.string (⟨#[]⟩ : ByteArray), .int .i64 0, .int .i64 0, .int .i64 0, .int .i64 0, .int .i64 0, .int .i64 0, .int .i64 0, .int .i64 0]) (t := 26) ?hr ?_; (case hd => rfl); (case hg => rfl); (case hr => first | (go_simp; done) | (go_simp; rfl))
              intro gb180 hg w17 hbox hb
              have n0_ := Aside0.mk (blk_below (g := gb162) (o := .cells #[.string (⟨#[]⟩ : ByteArray), .int .i64 0, .int .i64 0, .int .i64 0, .int .i64 0, .int .i64 0, .int .i64 0, .int .i64 0, .int .i64 0] 26 (0, 0)) (by (with_reducible repeat first | apply bN | apply bD | apply bA); exact BK162.out) hb)
              have n1_ := Aside0.mk (below_step (by repeat (first | (with_reducible first | exact HB.out | apply lA | apply lN | apply lD | refine below_set ?_ GE162.out) | exact HB.out)) hb)
              have n2_ := Aside0.mk (hbox)
              have n3_ := Aside0.mk ((by rw [hg]; exact (below_size (by repeat (first | (with_reducible first | exact HBQ.out | apply lA | apply lN | apply lD | refine below_set ?_ GE162.out) | exact HBQ.out))) : w11.heap.size ≤ gb180))
              have nq_ := Aside0.mk (below_step (by repeat (first | (with_reducible first | exact HBQ.out | apply lA | apply lN | apply lD) | exact HBQ.out)) hb)
              have n4_ := Aside0.mk ((by rw [hg]; exact (below_size (by repeat (first | (with_reducible first | exact HB.out | apply lA | apply lN | apply lD | refine below_set ?_ GE162.out) | exact HB.out))) : w.heap.size ≤ gb180))
              have n5_ := Aside0.mk ((by rw [hg]; exact Nat.ne_of_lt (blk_lt (g := gb162) (o := .cells #[.string (⟨#[]⟩ : ByteArray), .int .i64 0, .int .i64 0, .int .i64 0, .int .i64 0, .int .i64 0, .int .i64 0, .int .i64 0, .int .i64 0] 26 (0, 0)) (by (with_reducible repeat first | apply bN | apply bD | apply bA); exact BK162.out)) : gb162 ≠ gb180))
              have n6_ := Aside0.mk ((by rw [hg]; exact Nat.ne_of_gt (blk_lt (g := gb162) (o := .cells #[.string (⟨#[]⟩ : ByteArray), .int .i64 0, .int .i64 0, .int .i64 0, .int .i64 0, .int .i64 0, .int .i64 0, .int .i64 0, .int .i64 0] 26 (0, 0)) (by (with_reducible repeat first | apply bN | apply bD | apply bA); exact BK162.out)) : gb180 ≠ gb162))
              clear BK162
              clear HB
              have BK162 := n0_
              have HB := n1_
              clear HBQ
              have HBQ := nq_
              clear nq_
              have BK180 := n2_
              have GW180 := n3_
              have GE180 := n4_
              have NB162_180 := n5_
              have NB180_162 := n6_
              clear n0_ n1_ n2_ n3_ n4_ n5_ n6_
              clear hb hbox hg
              refine hK.out _ _ ⟨((HBQ.out.cell (World.block_lt_of_cell? _ _ hw171_0)).trans hw171_0), ((HBQ.out.cell (World.block_lt_of_cell? _ _ hw172_0)).trans hw172_0), ((HBQ.out.cell (World.block_lt_of_cell? _ _ hw173_0)).trans hw173_0), ((HBQ.out.cell (World.block_lt_of_cell? _ _ hw174_0)).trans hw174_0), ((HBQ.out.cell (World.block_lt_of_cell? _ _ hw175_0)).trans hw175_0), ((HBQ.out.cell (World.block_lt_of_cell? _ _ hw176_0)).trans hw176_0), ((HBQ.out.cell (World.block_lt_of_cell? _ _ hw177_0)).trans hw177_0), ((HBQ.out.cell (World.block_lt_of_cell? _ _ hw178_0)).trans hw178_0), ((HBQ.out.cell (World.block_lt_of_cell? _ _ hw179_0)).trans hw179_0)⟩ (fun hHeld => ?_)
              clear hK K
              refine norm_ (a' := ?_) ?_ ?_
              rotate_left
              ·
               show Act.put _ (some 7) _ = _
               simp only [Act.put, sT, s0, sS, i64_w, i32_w]
               rfl
              refine one_ (i := 29) (N := none) #[true, true, true, true, true, true, true, true, true, true, true, true, true, true, true, true, true, true, true, true, true, true, true, true, true, true, true, true, true, true] rfl rfl (one_of HT_.out (by kernel_rfl)) (by decide) (fun K hK => ?_)
              have hs18 : w17.cell? ⟨gb180, 0, none⟩ = some (.string (⟨#[]⟩ : ByteArray)) := (blk_cell BK180.out 0).trans rfl
              have hfs18 := blk_frozen BK180.out 0
              have hns18_0 := NB162_180.out
              have hms18_0 := NB180_162.out
              have hs19 : w17.cell? ⟨gb180, 1, none⟩ = some (.int .i64 0) := (blk_cell BK180.out 1).trans rfl
              have hfs19 := blk_frozen BK180.out 1
              have hns19_0 := NB162_180.out
              have hms19_0 := NB180_162.out
              have hs20 : w17.cell? ⟨gb180, 2, none⟩ = some (.int .i64 0) := (blk_cell BK180.out 2).trans rfl
              have hfs20 := blk_frozen BK180.out 2
              have hns20_0 := NB162_180.out
              have hms20_0 := NB180_162.out
              have hs21 : w17.cell? ⟨gb180, 3, none⟩ = some (.int .i64 0) := (blk_cell BK180.out 3).trans rfl
              have hfs21 := blk_frozen BK180.out 3
              have hns21_0 := NB162_180.out
              have hms21_0 := NB180_162.out
              have hs22 : w17.cell? ⟨gb180, 4, none⟩ = some (.int .i64 0) := (blk_cell BK180.out 4).trans rfl
              have hfs22 := blk_frozen BK180.out 4
              have hns22_0 := NB162_180.out
              have hms22_0 := NB180_162.out
              have hs23 : w17.cell? ⟨gb180, 5, none⟩ = some (.int .i64 0) := (blk_cell BK180.out 5).trans rfl
              have hfs23 := blk_frozen BK180.out 5
              have hns23_0 := NB162_180.out
              have hms23_0 := NB180_162.out
              have hs24 : w17.cell? ⟨gb180, 6, none⟩ = some (.int .i64 0) := (blk_cell BK180.out 6).trans rfl
              have hfs24 := blk_frozen BK180.out 6
              have hns24_0 := NB162_180.out
              have hms24_0 := NB180_162.out
              have hs25 : w17.cell? ⟨gb180, 7, none⟩ = some (.int .i64 0) := (blk_cell BK180.out 7).trans rfl
              have hfs25 := blk_frozen BK180.out 7
              have hns25_0 := NB162_180.out
              have hms25_0 := NB180_162.out
              have hs26 : w17.cell? ⟨gb180, 8, none⟩ = some (.int .i64 0) := (blk_cell BK180.out 8).trans rfl
              have hfs26 := blk_frozen BK180.out 8
              have hns26_0 := NB162_180.out
              have hms26_0 := NB180_162.out
              refine skip_ (w1 := ?_) (by rfl) rfl ?_ ?_
              rotate_left
              ·
               go_simp
               rfl
              refine hK.out _ _ ⟨((cf9 (by first | exact Nat.ne_of_lt (Nat.lt_of_lt_of_le (by have := World.block_lt_of_cell? _ _ hw171_0; first | rwa [add_block] at this | exact this) GW180.out) | (rw [add_block]; exact Nat.ne_of_lt (Nat.lt_of_lt_of_le (by have := World.block_lt_of_cell? _ _ hw171_0; first | rwa [add_block] at this | exact this) GW180.out)) | (show (Addr.add _ _).block ≠ _; rw [add_block]; exact Nat.ne_of_lt (Nat.lt_of_lt_of_le (by have := World.block_lt_of_cell? _ _ hw171_0; first | rwa [add_block] at this | exact this) GW180.out)) | (dsimp only; exact Nat.ne_of_lt (Nat.lt_of_lt_of_le (by have := World.block_lt_of_cell? _ _ hw171_0; first | rwa [add_block] at this | exact this) GW180.out))) _ _ _ _ _ _ _ _ _).trans (hHeld.1)), ((cf9 (by first | exact Nat.ne_of_lt (Nat.lt_of_lt_of_le (by have := World.block_lt_of_cell? _ _ hw172_0; first | rwa [add_block] at this | exact this) GW180.out) | (rw [add_block]; exact Nat.ne_of_lt (Nat.lt_of_lt_of_le (by have := World.block_lt_of_cell? _ _ hw172_0; first | rwa [add_block] at this | exact this) GW180.out)) | (show (Addr.add _ _).block ≠ _; rw [add_block]; exact Nat.ne_of_lt (Nat.lt_of_lt_of_le (by have := World.block_lt_of_cell? _ _ hw172_0; first | rwa [add_block] at this | exact this) GW180.out)) | (dsimp only; exact Nat.ne_of_lt (Nat.lt_of_lt_of_le (by have := World.block_lt_of_cell? _ _ hw172_0; first | rwa [add_block] at this | exact this) GW180.out))) _ _ _ _ _ _ _ _ _).trans (hHeld.2.1)), ((cf9 (by first | exact Nat.ne_of_lt (Nat.lt_of_lt_of_le (by have := World.block_lt_of_cell? _ _ hw173_0; first | rwa [add_block] at this | exact this) GW180.out) | (rw [add_block]; exact Nat.ne_of_lt (Nat.lt_of_lt_of_le (by have := World.block_lt_of_cell? _ _ hw173_0; first | rwa [add_block] at this | exact this) GW180.out)) | (show (Addr.add _ _).block ≠ _; rw [add_block]; exact Nat.ne_of_lt (Nat.lt_of_lt_of_le (by have := World.block_lt_of_cell? _ _ hw173_0; first | rwa [add_block] at this | exact this) GW180.out)) | (dsimp only; exact Nat.ne_of_lt (Nat.lt_of_lt_of_le (by have := World.block_lt_of_cell? _ _ hw173_0; first | rwa [add_block] at this | exact this) GW180.out))) _ _ _ _ _ _ _ _ _).trans (hHeld.2.2.1)), ((cf9 (by first | exact Nat.ne_of_lt (Nat.lt_of_lt_of_le (by have := World.block_lt_of_cell? _ _ hw174_0; first | rwa [add_block] at this | exact this) GW180.out) | (rw [add_block]; exact Nat.ne_of_lt (Nat.lt_of_lt_of_le (by have := World.block_lt_of_cell? _ _ hw174_0; first | rwa [add_block] at this | exact this) GW180.out)) | (show (Addr.add _ _).block ≠ _; rw [add_block]; exact Nat.ne_of_lt (Nat.lt_of_lt_of_le (by have := World.block_lt_of_cell? _ _ hw174_0; first | rwa [add_block] at this | exact this) GW180.out)) | (dsimp only; exact Nat.ne_of_lt (Nat.lt_of_lt_of_le (by have := World.block_lt_of_cell? _ _ hw174_0; first | rwa [add_block] at this | exact this) GW180.out))) _ _ _ _ _ _ _ _ _).trans (hHeld.2.2.2.1)), ((cf9 (by first | exact Nat.ne_of_lt (Nat.lt_of_lt_of_le (by have := World.block_lt_of_cell? _ _ hw175_0; first | rwa [add_block] at this | exact this) GW180.out) | (rw [add_block]; exact Nat.ne_of_lt (Nat.lt_of_lt_of_le (by have := World.block_lt_of_cell? _ _ hw175_0; first | rwa [add_block] at this | exact this) GW180.out)) | (show (Addr.add _ _).block ≠ _; rw [add_block]; exact Nat.ne_of_lt (Nat.lt_of_lt_of_le (by have := World.block_lt_of_cell? _ _ hw175_0; first | rwa [add_block] at this | exact this) GW180.out)) | (dsimp only; exact Nat.ne_of_lt (Nat.lt_of_lt_of_le (by have := World.block_lt_of_cell? _ _ hw175_0; first | rwa [add_block] at this | exact this) GW180.out))) _ _ _ _ _ _ _ _ _).trans (hHeld.2.2.2.2.1)), ((cf9 (by first | exact Nat.ne_of_lt (Nat.lt_of_lt_of_le (by have := World.block_lt_of_cell? _ _ hw176_0; first | rwa [add_block] at this | exact this) GW180.out) | (rw [add_block]; exact Nat.ne_of_lt (Nat.lt_of_lt_of_le (by have := World.block_lt_of_cell? _ _ hw176_0; first | rwa [add_block] at this | exact this) GW180.out)) | (show (Addr.add _ _).block ≠ _; rw [add_block]; exact Nat.ne_of_lt (Nat.lt_of_lt_of_le (by have := World.block_lt_of_cell? _ _ hw176_0; first | rwa [add_block] at this | exact this) GW180.out)) | (dsimp only; exact Nat.ne_of_lt (Nat.lt_of_lt_of_le (by have := World.block_lt_of_cell? _ _ hw176_0; first | rwa [add_block] at this | exact this) GW180.out))) _ _ _ _ _ _ _ _ _).trans (hHeld.2.2.2.2.2.1)), ((cf9 (by first | exact Nat.ne_of_lt (Nat.lt_of_lt_of_le (by have := World.block_lt_of_cell? _ _ hw177_0; first | rwa [add_block] at this | exact this) GW180.out) | (rw [add_block]; exact Nat.ne_of_lt (Nat.lt_of_lt_of_le (by have := World.block_lt_of_cell? _ _ hw177_0; first | rwa [add_block] at this | exact this) GW180.out)) | (show (Addr.add _ _).block ≠ _; rw [add_block]; exact Nat.ne_of_lt (Nat.lt_of_lt_of_le (by have := World.block_lt_of_cell? _ _ hw177_0; first | rwa [add_block] at this | exact this) GW180.out)) | (dsimp only; exact Nat.ne_of_lt (Nat.lt_of_lt_of_le (by have := World.block_lt_of_cell? _ _ hw177_0; first | rwa [add_block] at this | exact this) GW180.out))) _ _ _ _ _ _ _ _ _).trans (hHeld.2.2.2.2.2.2.1)), ((cf9 (by first | exact Nat.ne_of_lt (Nat.lt_of_lt_of_le (by have := World.block_lt_of_cell? _ _ hw178_0; first | rwa [add_block] at this | exact this) GW180.out) | (rw [add_block]; exact Nat.ne_of_lt (Nat.lt_of_lt_of_le (by have := World.block_lt_of_cell? _ _ hw178_0; first | rwa [add_block] at this | exact this) GW180.out)) | (show (Addr.add _ _).block ≠ _; rw [add_block]; exact Nat.ne_of_lt (Nat.lt_of_lt_of_le (by have := World.block_lt_of_cell? _ _ hw178_0; first | rwa [add_block] at this | exact this) GW180.out)) | (dsimp only; exact Nat.ne_of_lt (Nat.lt_of_lt_of_le (by have := World.block_lt_of_cell? _ _ hw178_0; first | rwa [add_block] at this | exact this) GW180.out))) _ _ _ _ _ _ _ _ _).trans (hHeld.2.2.2.2.2.2.2.1)), ((cf9 (by first | exact Nat.ne_of_lt (Nat.lt_of_lt_of_le (by have := World.block_lt_of_cell? _ _ hw179_0; first | rwa [add_block] at this | exact this) GW180.out) | (rw [add_block]; exact Nat.ne_of_lt (Nat.lt_of_lt_of_le (by have := World.block_lt_of_cell? _ _ hw179_0; first | rwa [add_block] at this | exact this) GW180.out)) | (show (Addr.add _ _).block ≠ _; rw [add_block]; exact Nat.ne_of_lt (Nat.lt_of_lt_of_le (by have := World.block_lt_of_cell? _ _ hw179_0; first | rwa [add_block] at this | exact this) GW180.out)) | (dsimp only; exact Nat.ne_of_lt (Nat.lt_of_lt_of_le (by have := World.block_lt_of_cell? _ _ hw179_0; first | rwa [add_block] at this | exact this) GW180.out))) _ _ _ _ _ _ _ _ _).trans (hHeld.2.2.2.2.2.2.2.2))⟩ (fun hHeld => ?_)
              clear hK K
              refine done_ (done_of HT_.out (by kernel_rfl)) ?_
              have hnb27 := NB180_162.out
              have hnc27 := NB162_180.out
              have hcz28_0 : w17.cell? ⟨gb180, 0, none⟩ = some (.string (⟨#[]⟩ : ByteArray)) := (blk_cell BK180.out 0).trans rfl
              have hcz28_1 : w17.cell? ⟨gb180, 1, none⟩ = some (.int .i64 0) := (blk_cell BK180.out 1).trans rfl
              have hcz28_2 : w17.cell? ⟨gb180, 2, none⟩ = some (.int .i64 0) := (blk_cell BK180.out 2).trans rfl
              have hcz28_3 : w17.cell? ⟨gb180, 3, none⟩ = some (.int .i64 0) := (blk_cell BK180.out 3).trans rfl
              have hcz28_4 : w17.cell? ⟨gb180, 4, none⟩ = some (.int .i64 0) := (blk_cell BK180.out 4).trans rfl
              have hcz28_5 : w17.cell? ⟨gb180, 5, none⟩ = some (.int .i64 0) := (blk_cell BK180.out 5).trans rfl
              have hcz28_6 : w17.cell? ⟨gb180, 6, none⟩ = some (.int .i64 0) := (blk_cell BK180.out 6).trans rfl
              have hcz28_7 : w17.cell? ⟨gb180, 7, none⟩ = some (.int .i64 0) := (blk_cell BK180.out 7).trans rfl
              have hcz28_8 : w17.cell? ⟨gb180, 8, none⟩ = some (.int .i64 0) := (blk_cell BK180.out 8).trans rfl
              have hfz28_0 := blk_frozen BK180.out 0
              have hfz28_1 := blk_frozen BK180.out 1
              have hfz28_2 := blk_frozen BK180.out 2
              have hfz28_3 := blk_frozen BK180.out 3
              have hfz28_4 := blk_frozen BK180.out 4
              have hfz28_5 := blk_frozen BK180.out 5
              have hfz28_6 := blk_frozen BK180.out 6
              have hfz28_7 := blk_frozen BK180.out 7
              have hfz28_8 := blk_frozen BK180.out 8
              try go_wp2_with (first | ((with_reducible refine gate_callee (f := 16) rfl ?_); refine goesL_ (some 52) rfl rfl Try.func16 (by kernel_rfl) rfl #[.agg #[.string (rdOf ByteArray.empty t163 0), .int .i64 (rd t170 0), .int .i64 (rd t170 1), .int .i64 (rd t170 2), .int .i64 (rd t170 3), .int .i64 (rd t170 4), .int .i64 (rd t170 5), .int .i64 (rd t170 6), .int .i64 (rd t170 7)]] rfl (by (try simp only [List.map_toArray, List.map_cons, List.map_nil]); first | done | rfl | (go_simp; done) | simp) ?_; (with_reducible refine (spec_IsArticle.calls k (rdOf ByteArray.empty t163 0) (rd t170 0) (rd t170 1) (rd t170 2) (rd t170 3) (rd t170 4) (rd t170 5) (rd t170 6) (rd t170 7) true _ A13.out).mono ?_); rintro e w29 ⟨rfl, hb⟩; refine ⟨_, rfl, ?_⟩; have n0_ := Aside0.mk (blk_below (g := gb162) (o := .cells #[.string (⟨#[]⟩ : ByteArray), .int .i64 0, .int .i64 0, .int .i64 0, .int .i64 0, .int .i64 0, .int .i64 0, .int .i64 0, .int .i64 0] 26 (0, 0)) (by (with_reducible repeat first | apply bN | apply bD | apply bA); refine blk_far ?_ NB162_180.out _; (with_reducible repeat first | apply bN | apply bD | apply bA); refine blk_far ?_ NB162_180.out _; (with_reducible repeat first | apply bN | apply bD | apply bA); refine blk_far ?_ NB162_180.out _; (with_reducible repeat first | apply bN | apply bD | apply bA); refine blk_far ?_ NB162_180.out _; (with_reducible repeat first | apply bN | apply bD | apply bA); refine blk_far ?_ NB162_180.out _; (with_reducible repeat first | apply bN | apply bD | apply bA); refine blk_far ?_ NB162_180.out _; (with_reducible repeat first | apply bN | apply bD | apply bA); refine blk_far ?_ NB162_180.out _; (with_reducible repeat first | apply bN | apply bD | apply bA); refine blk_far ?_ NB162_180.out _; (with_reducible repeat first | apply bN | apply bD | apply bA); refine blk_far ?_ NB162_180.out _; (with_reducible repeat first | apply bN | apply bD | apply bA); exact BK162.out) hb); have n1_ := Aside0.mk (blk_below (g := gb180) (o := .cells #[.string (rdOf ByteArray.empty t163 0), .int .i64 (rd t170 0), .int .i64 (rd t170 1), .int .i64 (rd t170 2), .int .i64 (rd t170 3), .int .i64 (rd t170 4), .int .i64 (rd t170 5), .int .i64 (rd t170 6), .int .i64 (rd t170 7)] 26 (0, 0)) (by (with_reducible repeat first | apply bN | apply bD | apply bA); refine blk_put (cs := #[.string (rdOf ByteArray.empty t163 0), .int .i64 (rd t170 0), .int .i64 (rd t170 1), .int .i64 (rd t170 2), .int .i64 (rd t170 3), .int .i64 (rd t170 4), .int .i64 (rd t170 5), .int .i64 (rd t170 6), .int .i64 0]) ?_ 8 _ rfl; (with_reducible repeat first | apply bN | apply bD | apply bA); refine blk_put (cs := #[.string (rdOf ByteArray.empty t163 0), .int .i64 (rd t170 0), .int .i64 (rd t170 1), .int .i64 (rd t170 2), .int .i64 (rd t170 3), .int .i64 (rd t170 4), .int .i64 (rd t170 5), .int .i64 0, .int .i64 0]) ?_ 7 _ rfl; (with_reducible repeat first | apply bN | apply bD | apply bA); refine blk_put (cs := #[.string (rdOf ByteArray.empty t163 0), .int .i64 (rd t170 0), .int .i64 (rd t170 1), .int .i64 (rd t170 2), .int .i64 (rd t170 3), .int .i64 (rd t170 4), .int .i64 0, .int .i64 0, .int .i64 0]) ?_ 6 _ rfl; (with_reducible repeat first | apply bN | apply bD | apply bA); refine blk_put (cs := #[.string (rdOf ByteArray.empty t163 0), .int .i64 (rd t170 0), .int .i64 (rd t170 1), .int .i64 (rd t170 2), .int .i64 (rd t170 3), .int .i64 0, .int .i64 0, .int .i64 0, .int .i64 0]) ?_ 5 _ rfl; (with_reducible repeat first | apply bN | apply bD | apply bA); refine blk_put (cs := #[.string (rdOf ByteArray.empty t163 0), .int .i64 (rd t170 0), .int .i64 (rd t170 1), .int .i64 (rd t170 2), .int .i64 0, .int .i64 0, .int .i64 0, .int .i64 0, .int .i64 0]) ?_ 4 _ rfl; (with_reducible repeat first | apply bN | apply bD | apply bA); refine blk_put (cs := #[.string (rdOf ByteArray.empty t163 0), .int .i64 (rd t170 0), .int .i64 (rd t170 1), .int .i64 0, .int .i64 0, .int .i64 0, .int .i64 0, .int .i64 0, .int .i64 0]) ?_ 3 _ rfl; (with_reducible repeat first | apply bN | apply bD | apply bA); refine blk_put (cs := #[.string (rdOf ByteArray.empty t163 0), .int .i64 (rd t170 0), .int .i64 0, .int .i64 0, .int .i64 0, .int .i64 0, .int .i64 0, .int .i64 0, .int .i64 0]) ?_ 2 _ rfl; (with_reducible repeat first | apply bN | apply bD | apply bA); refine blk_put (cs := #[.string (rdOf ByteArray.empty t163 0), .int .i64 0, .int .i64 0, .int .i64 0, .int .i64 0, .int .i64 0, .int .i64 0, .int .i64 0, .int .i64 0]) ?_ 1 _ rfl; (with_reducible repeat first | apply bN | apply bD | apply bA); refine blk_put (cs := #[.string (⟨#[]⟩ : ByteArray), .int .i64 0, .int .i64 0, .int .i64 0, .int .i64 0, .int .i64 0, .int .i64 0, .int .i64 0, .int .i64 0]) ?_ 0 _ rfl; (with_reducible repeat first | apply bN | apply bD | apply bA); exact BK180.out) hb); have n2_ := Aside0.mk (below_step (by repeat (first | (with_reducible first | exact HB.out | apply lA | apply lN | apply lD | refine below_set ?_ GE162.out | refine below_set ?_ GE180.out) | exact HB.out)) hb); clear BK162; clear BK180; clear HB; have BK162 := n0_; have BK180 := n1_; have HB := n2_; clear n0_ n1_ n2_; (try clear hb); (try clear hb2); (try clear hk); (try clear hi); have hcz30_0 : w29.cell? ⟨gb180, 0, none⟩ = some (.string (rdOf ByteArray.empty t163 0)) := (blk_cell BK180.out 0).trans rfl; have hcz30_1 : w29.cell? ⟨gb180, 1, none⟩ = some (.int .i64 (rd t170 0)) := (blk_cell BK180.out 1).trans rfl; have hcz30_2 : w29.cell? ⟨gb180, 2, none⟩ = some (.int .i64 (rd t170 1)) := (blk_cell BK180.out 2).trans rfl; have hcz30_3 : w29.cell? ⟨gb180, 3, none⟩ = some (.int .i64 (rd t170 2)) := (blk_cell BK180.out 3).trans rfl; have hcz30_4 : w29.cell? ⟨gb180, 4, none⟩ = some (.int .i64 (rd t170 3)) := (blk_cell BK180.out 4).trans rfl; have hcz30_5 : w29.cell? ⟨gb180, 5, none⟩ = some (.int .i64 (rd t170 4)) := (blk_cell BK180.out 5).trans rfl; have hcz30_6 : w29.cell? ⟨gb180, 6, none⟩ = some (.int .i64 (rd t170 5)) := (blk_cell BK180.out 6).trans rfl; have hcz30_7 : w29.cell? ⟨gb180, 7, none⟩ = some (.int .i64 (rd t170 6)) := (blk_cell BK180.out 7).trans rfl; have hcz30_8 : w29.cell? ⟨gb180, 8, none⟩ = some (.int .i64 (rd t170 7)) := (blk_cell BK180.out 8).trans rfl; have hfz30_0 := blk_frozen BK180.out 0; have hfz30_1 := blk_frozen BK180.out 1; have hfz30_2 := blk_frozen BK180.out 2; have hfz30_3 := blk_frozen BK180.out 3; have hfz30_4 := blk_frozen BK180.out 4; have hfz30_5 := blk_frozen BK180.out 5; have hfz30_6 := blk_frozen BK180.out 6; have hfz30_7 := blk_frozen BK180.out 7; have hfz30_8 := blk_frozen BK180.out 8; have hcz31_0 : w29.cell? ⟨gb162, 0, none⟩ = some (.string (⟨#[]⟩ : ByteArray)) := (blk_cell BK162.out 0).trans rfl; have hcz31_1 : w29.cell? ⟨gb162, 1, none⟩ = some (.int .i64 0) := (blk_cell BK162.out 1).trans rfl; have hcz31_2 : w29.cell? ⟨gb162, 2, none⟩ = some (.int .i64 0) := (blk_cell BK162.out 2).trans rfl; have hcz31_3 : w29.cell? ⟨gb162, 3, none⟩ = some (.int .i64 0) := (blk_cell BK162.out 3).trans rfl; have hcz31_4 : w29.cell? ⟨gb162, 4, none⟩ = some (.int .i64 0) := (blk_cell BK162.out 4).trans rfl; have hcz31_5 : w29.cell? ⟨gb162, 5, none⟩ = some (.int .i64 0) := (blk_cell BK162.out 5).trans rfl; have hcz31_6 : w29.cell? ⟨gb162, 6, none⟩ = some (.int .i64 0) := (blk_cell BK162.out 6).trans rfl; have hcz31_7 : w29.cell? ⟨gb162, 7, none⟩ = some (.int .i64 0) := (blk_cell BK162.out 7).trans rfl; have hcz31_8 : w29.cell? ⟨gb162, 8, none⟩ = some (.int .i64 0) := (blk_cell BK162.out 8).trans rfl; have hfz31_0 := blk_frozen BK162.out 0; have hfz31_1 := blk_frozen BK162.out 1; have hfz31_2 := blk_frozen BK162.out 2; have hfz31_3 := blk_frozen BK162.out 3; have hfz31_4 := blk_frozen BK162.out 4; have hfz31_5 := blk_frozen BK162.out 5; have hfz31_6 := blk_frozen BK162.out 6; have hfz31_7 := blk_frozen BK162.out 7; have hfz31_8 := blk_frozen BK162.out 8))
              refine bodyPost_ret (results_ct rfl _ _ gb162 26 #[.string (rdOf ByteArray.empty t163 0), .int .i64 (rd t170 0), .int .i64 (rd t170 1), .int .i64 (rd t170 2), .int .i64 (rd t170 3), .int .i64 (rd t170 4), .int .i64 (rd t170 5), .int .i64 (rd t170 6), .int .i64 (rd t170 7)] (0, 0) _ rfl (by (with_reducible repeat first | apply bN | apply bD | apply bA); refine blk_put (cs := #[.string (rdOf ByteArray.empty t163 0), .int .i64 (rd t170 0), .int .i64 (rd t170 1), .int .i64 (rd t170 2), .int .i64 (rd t170 3), .int .i64 (rd t170 4), .int .i64 (rd t170 5), .int .i64 (rd t170 6), .int .i64 0]) ?_ 8 _ rfl; (with_reducible repeat first | apply bN | apply bD | apply bA); refine blk_put (cs := #[.string (rdOf ByteArray.empty t163 0), .int .i64 (rd t170 0), .int .i64 (rd t170 1), .int .i64 (rd t170 2), .int .i64 (rd t170 3), .int .i64 (rd t170 4), .int .i64 (rd t170 5), .int .i64 0, .int .i64 0]) ?_ 7 _ rfl; (with_reducible repeat first | apply bN | apply bD | apply bA); refine blk_put (cs := #[.string (rdOf ByteArray.empty t163 0), .int .i64 (rd t170 0), .int .i64 (rd t170 1), .int .i64 (rd t170 2), .int .i64 (rd t170 3), .int .i64 (rd t170 4), .int .i64 0, .int .i64 0, .int .i64 0]) ?_ 6 _ rfl; (with_reducible repeat first | apply bN | apply bD | apply bA); refine blk_put (cs := #[.string (rdOf ByteArray.empty t163 0), .int .i64 (rd t170 0), .int .i64 (rd t170 1), .int .i64 (rd t170 2), .int .i64 (rd t170 3), .int .i64 0, .int .i64 0, .int .i64 0, .int .i64 0]) ?_ 5 _ rfl; (with_reducible repeat first | apply bN | apply bD | apply bA); refine blk_put (cs := #[.string (rdOf ByteArray.empty t163 0), .int .i64 (rd t170 0), .int .i64 (rd t170 1), .int .i64 (rd t170 2), .int .i64 0, .int .i64 0, .int .i64 0, .int .i64 0, .int .i64 0]) ?_ 4 _ rfl; (with_reducible repeat first | apply bN | apply bD | apply bA); refine blk_put (cs := #[.string (rdOf ByteArray.empty t163 0), .int .i64 (rd t170 0), .int .i64 (rd t170 1), .int .i64 0, .int .i64 0, .int .i64 0, .int .i64 0, .int .i64 0, .int .i64 0]) ?_ 3 _ rfl; (with_reducible repeat first | apply bN | apply bD | apply bA); refine blk_put (cs := #[.string (rdOf ByteArray.empty t163 0), .int .i64 (rd t170 0), .int .i64 0, .int .i64 0, .int .i64 0, .int .i64 0, .int .i64 0, .int .i64 0, .int .i64 0]) ?_ 2 _ rfl; (with_reducible repeat first | apply bN | apply bD | apply bA); refine blk_put (cs := #[.string (rdOf ByteArray.empty t163 0), .int .i64 0, .int .i64 0, .int .i64 0, .int .i64 0, .int .i64 0, .int .i64 0, .int .i64 0, .int .i64 0]) ?_ 1 _ rfl; (with_reducible repeat first | apply bN | apply bD | apply bA); refine blk_put (cs := #[.string (⟨#[]⟩ : ByteArray), .int .i64 0, .int .i64 0, .int .i64 0, .int .i64 0, .int .i64 0, .int .i64 0, .int .i64 0, .int .i64 0]) ?_ 0 _ rfl; (with_reducible repeat first | apply bN | apply bD | apply bA); exact BK162.out) Try.underlying26 rfl (by kernel_rfl)) rfl ?_
              exact ⟨by first | rfl | (simp [errW_none, errW_some] <;> rfl) | (simp [*, errW_none, errW_some] <;> rfl), by repeat (first | (with_reducible first | exact HB.out | apply lA | apply lN | apply lD | refine below_set ?_ GE162.out | refine below_set ?_ GE180.out) | exact HB.out)⟩
             ·
              replace c14 := Bool.eq_false_iff.mpr c14
              subst c14
              have H1 : (some ((⟨#[]⟩ : ByteArray), 0, 0, 0, 0, 0, 0, 0, 0, 6)) = some (r1, r2, r3, r4, r5, r6, r7, r8, r9, r10) := by rw [if_neg (show ¬ (false = true) by decide)] at H; exact H
              clear H
              have H := H1
              clear H1
              simp only [Option.some.injEq, Prod.mk.injEq] at H
              obtain ⟨rfl, rfl, rfl, rfl, rfl, rfl, rfl, rfl, rfl, rfl⟩ := H
              go_enter Try.func25, Try.ntmps25
              go_wp2_with (first | ((with_reducible refine gate_dst (N := 2) rfl ?_); refine box_event ?hg (N := 2) ?hd (cs := #[.string (⟨#[]⟩ : ByteArray), .int .i64 0, .int .i64 0, .int .i64 0, .int .i64 0, .int .i64 0, .int .i64 0, .int .i64 0, .int .i64 0]) (t := 26) ?hr ?_; (case hd => rfl); (case hg => rfl); (case hr => first | (go_simp; done) | (go_simp; rfl)); intro gb162 hg w7 hbox hb; have n0_ := Aside0.mk (below_step (by repeat (first | (with_reducible first | exact HB.out | apply lA | apply lN | apply lD) | exact HB.out)) hb); have n1_ := Aside0.mk (hbox); have n2_ := Aside0.mk ((by rw [hg]; exact (below_size (by repeat (first | (with_reducible first | exact HB.out | apply lA | apply lN | apply lD) | exact HB.out))) : w.heap.size ≤ gb162)); have n3_ := Aside0.mk ((by rw [hg]; exact (below_size (by repeat (first | (with_reducible first | exact HB.out | apply lA | apply lN | apply lD) | exact HB.out))) : w.heap.size ≤ gb162)); clear HB; have HB := n0_; have BK162 := n1_; have GW162 := n2_; have GE162 := n3_; clear n0_ n1_ n2_ n3_; clear hb hbox hg) | ((with_reducible refine gate_callee (f := 72) rfl ?_); refine goesL_ (some 9) rfl rfl Try.func72 (by kernel_rfl) rfl #[.string a0, .int .u8 47] rfl (by (try simp only [List.map_toArray, List.map_cons, List.map_nil]); first | done | rfl | (go_simp; done) | simp) ?_; (with_reducible refine (spec_l01Split.calls k a0 47 t163 _ A2.out).mono ?_); rintro e w8 ⟨v164, rfl, ho0, hb⟩; refine ⟨_, rfl, ?_⟩; have n0_ := Aside0.mk (Kd.R_lower ho0 (below_size (by repeat (first | (with_reducible first | exact HB.out | apply lA | apply lN | apply lD | refine below_set ?_ GE162.out) | exact HB.out)))); have n1_ := Aside0.mk (blk_below (g := gb162) (o := .cells #[.string (⟨#[]⟩ : ByteArray), .int .i64 0, .int .i64 0, .int .i64 0, .int .i64 0, .int .i64 0, .int .i64 0, .int .i64 0, .int .i64 0] 26 (0, 0)) (by (with_reducible repeat first | apply bN | apply bD | apply bA); exact BK162.out) hb); have n2_ := Aside0.mk (below_step (by repeat (first | (with_reducible first | exact HB.out | apply lA | apply lN | apply lD | refine below_set ?_ GE162.out) | exact HB.out)) hb); clear BK162; clear HB; have HO165 := n0_; have BK162 := n1_; have HB := n2_; clear n0_ n1_ n2_; (try clear hb); (try clear hb2); (try clear hk); (try clear hi); (try clear ho0); obtain ⟨Ao9, co9, eo9⟩ := Kd.R_slice HO165.out; subst eo9; have q10 : (1 : Int) ≤ ((t163.length : Int) : Int) := of_decide_eq_true (by with_reducible assumption); obtain ⟨i010, hi010, _, hsz10, _⟩ := info_parts info9; have hroom10 : t163.length ≤ co9 := (Kd.R_reads' HO165.out).2.1; have hC10 : Kd.C Kd.string _ Ao9 t163.length t163 := (Kd.R_reads' HO165.out).2.2; have hcut10 := cut_from (P := Try.prog) 82 9 .i64 Try.underlying82 hi010 1 hsz10 Ao9 t163.length co9 1 (by omega) q10; have hr10 := Kd.C_drop (m := (1 : Int).toNat) (c := co9) hC10 (by omega) hroom10; obtain ⟨A10, hA10⟩ : ∃ A1, A1 = (if co9 = (1 : Int).toNat then Ao9 else (Ao9 : Option Addr).map (·.add ((1 : Int).toNat * 1))) := ⟨_, rfl⟩; obtain ⟨c10, hc10⟩ : ∃ c1, c1 = co9 - (1 : Int).toNat := ⟨_, rfl⟩; have hy10 : y166.length = t163.length - (1 : Int).toNat := (by rw [Ny166.out, List.length_drop] <;> omega); rw [show (t163).drop (1 : Int).toNat = y166 from Ny166.out.symm] at hr10; replace hr10 : Kd.C Kd.string _ A10 y166.length y166 := (by rw [hA10]; exact hr10); rw [← hy10, ← hA10, ← hc10] at hcut10; have HR169 := Aside0.mk hr10; have HC169 := Aside0.mk (show y166.length ≤ c10 from by rw [hy10, hc10]; exact Nat.sub_le_sub_right hroom10 _); clear hr10 hC10 hroom10 hi010 hsz10 hc10; have KY10 := Aside0.mk hy10; have KA10 := Aside0.mk hA10; clear hy10 hA10; have KL10 := Aside0.mk (show 1 ≤ t163.length from by omega); replace q10 := eq_true q10) | ((with_reducible refine gate_callee (f := 73) rfl ?_); refine goesL_ (some 17) rfl rfl Try.func73 (by kernel_rfl) rfl #[.slice A10 y166.length c10] rfl (by (try simp only [List.map_toArray, List.map_cons, List.map_nil]); first | done | rfl | (go_simp; done) | simp) ?_; (with_reducible refine (spec_l01Numbers.calls k _ _ y166 t170 true _ ?side1 ?side2 A5.out).mono ?_); (case side1 => repeat (first | exact (by repeat (first | (with_reducible exact HR169.out) | (with_reducible first | apply cA | apply cN | apply cD) | exact HR169.out)) | (with_reducible first | apply cA | apply cN | apply cD))); (case side2 => exact HC169.out); rintro e w11 ⟨v172, rfl, ho0, hb⟩; refine ⟨_, rfl, ?_⟩; have n0_ := Aside0.mk (Kd.R_below (by (with_reducible repeat (first | apply rA | apply rN | apply rD)); exact HO165.out) hb); have n1_ := Aside0.mk (Kd.R_lower ho0 (below_size (by repeat (first | (with_reducible first | exact HB.out | apply lA | apply lN | apply lD | refine below_set ?_ GE162.out) | exact HB.out)))); have n2_ := Aside0.mk (blk_below (g := gb162) (o := .cells #[.string (⟨#[]⟩ : ByteArray), .int .i64 0, .int .i64 0, .int .i64 0, .int .i64 0, .int .i64 0, .int .i64 0, .int .i64 0, .int .i64 0] 26 (0, 0)) (by (with_reducible repeat first | apply bN | apply bD | apply bA); exact BK162.out) hb); have n3_ := Aside0.mk (Kd.C_below (by repeat (first | (with_reducible exact HR169.out) | (with_reducible first | apply cA | apply cN | apply cD) | exact HR169.out)) hb); have n4_ := Aside0.mk (below_step (by repeat (first | (with_reducible first | exact HB.out | apply lA | apply lN | apply lD | refine below_set ?_ GE162.out) | exact HB.out)) hb); clear HO165; clear BK162; clear HR169; clear HB; have HO165 := n0_; have HO173 := n1_; have BK162 := n2_; have HR169 := n3_; have HB := n4_; clear n0_ n1_ n2_ n3_ n4_; (try clear hb); (try clear hb2); (try clear hk); (try clear hi); (try clear ho0); have hcz12_0 : w11.cell? ⟨gb162, 0, none⟩ = some (.string (⟨#[]⟩ : ByteArray)) := (blk_cell BK162.out 0).trans rfl; have hcz12_1 : w11.cell? ⟨gb162, 1, none⟩ = some (.int .i64 0) := (blk_cell BK162.out 1).trans rfl; have hcz12_2 : w11.cell? ⟨gb162, 2, none⟩ = some (.int .i64 0) := (blk_cell BK162.out 2).trans rfl; have hcz12_3 : w11.cell? ⟨gb162, 3, none⟩ = some (.int .i64 0) := (blk_cell BK162.out 3).trans rfl; have hcz12_4 : w11.cell? ⟨gb162, 4, none⟩ = some (.int .i64 0) := (blk_cell BK162.out 4).trans rfl; have hcz12_5 : w11.cell? ⟨gb162, 5, none⟩ = some (.int .i64 0) := (blk_cell BK162.out 5).trans rfl; have hcz12_6 : w11.cell? ⟨gb162, 6, none⟩ = some (.int .i64 0) := (blk_cell BK162.out 6).trans rfl; have hcz12_7 : w11.cell? ⟨gb162, 7, none⟩ = some (.int .i64 0) := (blk_cell BK162.out 7).trans rfl; have hcz12_8 : w11.cell? ⟨gb162, 8, none⟩ = some (.int .i64 0) := (blk_cell BK162.out 8).trans rfl; have hfz12_0 := blk_frozen BK162.out 0; have hfz12_1 := blk_frozen BK162.out 1; have hfz12_2 := blk_frozen BK162.out 2; have hfz12_3 := blk_frozen BK162.out 3; have hfz12_4 := blk_frozen BK162.out 4; have hfz12_5 := blk_frozen BK162.out 5; have hfz12_6 := blk_frozen BK162.out 6; have hfz12_7 := blk_frozen BK162.out 7; have hfz12_8 := blk_frozen BK162.out 8))
              obtain ⟨A2_, c2_, e2_⟩ := Kd.R_slice HO173.out
              subst e2_
              have HR1 := Aside0.mk (Kd.R_reads' HO165.out).2.2
              have HR2 := Aside0.mk (Kd.R_reads' HO173.out).2.2
              have HBQ := Aside0.mk (below_drew1 (Below.refl w11.heap.size w11))
              clear HO165 HO173 HR169
              have n0_ := Aside0.mk (blk_drew BK162.out)
              have n1_ := Aside0.mk (below_drew1 HB.out)
              clear BK162
              clear HB
              have BK162 := n0_
              have HB := n1_
              clear n0_ n1_
              have p171 : 0 ≤ (0 : Int) := (by omega)
              have q171 : 0 < (t163.length : Int) := of_decide_eq_true (by with_reducible assumption)
              obtain ⟨ad171, e171, hx171_0⟩ := Kd.at_string HR1.out 0 p171 q171
              have hw171_0 := hx171_0
              (try rw [show ((0 : Int)).toNat = 0 from rfl] at hw171_0)
              (try rw [show 0 * 1 = 0 from rfl] at hw171_0)
              (try rw [Addr.add_zero'] at hw171_0)
              cases e171
              have qi171 : (0 < t163.length) = True := eq_true (by omega)
              (try rw [show ((0 : Int)).toNat = 0 from rfl] at hx171_0)
              (try rw [Addr.add_zero'] at hx171_0)
              replace hx171_0 := (HBQ.out.cell (World.block_lt_of_cell? _ _ hx171_0)).trans hx171_0
              replace p171 := eq_true p171
              replace q171 := eq_true q171
              have p172 : 0 ≤ (0 : Int) := (by omega)
              have q172 : 0 < (t170.length : Int) := of_decide_eq_true (by with_reducible assumption)
              obtain ⟨ad172, e172, hx172_0⟩ := Kd.at_int HR2.out 0 p172 q172
              have hw172_0 := hx172_0
              (try rw [show ((0 : Int)).toNat = 0 from rfl] at hw172_0)
              (try rw [show 0 * 1 = 0 from rfl] at hw172_0)
              (try rw [Addr.add_zero'] at hw172_0)
              cases e172
              have qi172 : (0 < t170.length) = True := eq_true (by omega)
              (try rw [show ((0 : Int)).toNat = 0 from rfl] at hx172_0)
              (try rw [Addr.add_zero'] at hx172_0)
              replace hx172_0 := (HBQ.out.cell (World.block_lt_of_cell? _ _ hx172_0)).trans hx172_0
              replace p172 := eq_true p172
              replace q172 := eq_true q172
              have p173 : 0 ≤ (1 : Int) := (by omega)
              have q173 : 1 < (t170.length : Int) := of_decide_eq_true (by with_reducible assumption)
              obtain ⟨ad173, e173, hx173_0⟩ := Kd.at_int HR2.out 1 p173 q173
              have hw173_0 := hx173_0
              (try rw [show ((1 : Int)).toNat = 1 from rfl] at hw173_0)
              (try rw [show 1 * 1 = 1 from rfl] at hw173_0)
              (try simp only [Nat.reduceMul, Nat.reduceEqDiff, Go.Addr.add, ↓reduceIte] at hw173_0)
              obtain rfl : ad172 = ad173 := (by injection e173)
              (try simp only [show (1 : Int).toNat = 1 from rfl, Nat.reduceMul, Nat.reduceEqDiff, Go.Addr.add, ↓reduceIte] at hx173_0)
              have qi173 : (1 < t170.length) = True := eq_true (by omega)
              (try rw [show ((1 : Int)).toNat = 1 from rfl] at hx173_0)
              replace hx173_0 := (HBQ.out.cell (World.block_lt_of_cell? _ _ hx173_0)).trans hx173_0
              replace p173 := eq_true p173
              replace q173 := eq_true q173
              have p174 : 0 ≤ (2 : Int) := (by omega)
              have q174 : 2 < (t170.length : Int) := of_decide_eq_true (by with_reducible assumption)
              obtain ⟨ad174, e174, hx174_0⟩ := Kd.at_int HR2.out 2 p174 q174
              have hw174_0 := hx174_0
              (try rw [show ((2 : Int)).toNat = 2 from rfl] at hw174_0)
              (try rw [show 2 * 1 = 2 from rfl] at hw174_0)
              (try simp only [Nat.reduceMul, Nat.reduceEqDiff, Go.Addr.add, ↓reduceIte] at hw174_0)
              obtain rfl : ad172 = ad174 := (by injection e174)
              (try simp only [show (2 : Int).toNat = 2 from rfl, Nat.reduceMul, Nat.reduceEqDiff, Go.Addr.add, ↓reduceIte] at hx174_0)
              have qi174 : (2 < t170.length) = True := eq_true (by omega)
              (try rw [show ((2 : Int)).toNat = 2 from rfl] at hx174_0)
              replace hx174_0 := (HBQ.out.cell (World.block_lt_of_cell? _ _ hx174_0)).trans hx174_0
              replace p174 := eq_true p174
              replace q174 := eq_true q174
              have p175 : 0 ≤ (3 : Int) := (by omega)
              have q175 : 3 < (t170.length : Int) := of_decide_eq_true (by with_reducible assumption)
              obtain ⟨ad175, e175, hx175_0⟩ := Kd.at_int HR2.out 3 p175 q175
              have hw175_0 := hx175_0
              (try rw [show ((3 : Int)).toNat = 3 from rfl] at hw175_0)
              (try rw [show 3 * 1 = 3 from rfl] at hw175_0)
              (try simp only [Nat.reduceMul, Nat.reduceEqDiff, Go.Addr.add, ↓reduceIte] at hw175_0)
              obtain rfl : ad172 = ad175 := (by injection e175)
              (try simp only [show (3 : Int).toNat = 3 from rfl, Nat.reduceMul, Nat.reduceEqDiff, Go.Addr.add, ↓reduceIte] at hx175_0)
              have qi175 : (3 < t170.length) = True := eq_true (by omega)
              (try rw [show ((3 : Int)).toNat = 3 from rfl] at hx175_0)
              replace hx175_0 := (HBQ.out.cell (World.block_lt_of_cell? _ _ hx175_0)).trans hx175_0
              replace p175 := eq_true p175
              replace q175 := eq_true q175
              have p176 : 0 ≤ (4 : Int) := (by omega)
              have q176 : 4 < (t170.length : Int) := of_decide_eq_true (by with_reducible assumption)
              obtain ⟨ad176, e176, hx176_0⟩ := Kd.at_int HR2.out 4 p176 q176
              have hw176_0 := hx176_0
              (try rw [show ((4 : Int)).toNat = 4 from rfl] at hw176_0)
              (try rw [show 4 * 1 = 4 from rfl] at hw176_0)
              (try simp only [Nat.reduceMul, Nat.reduceEqDiff, Go.Addr.add, ↓reduceIte] at hw176_0)
              obtain rfl : ad172 = ad176 := (by injection e176)
              (try simp only [show (4 : Int).toNat = 4 from rfl, Nat.reduceMul, Nat.reduceEqDiff, Go.Addr.add, ↓reduceIte] at hx176_0)
              have qi176 : (4 < t170.length) = True := eq_true (by omega)
              (try rw [show ((4 : Int)).toNat = 4 from rfl] at hx176_0)
              replace hx176_0 := (HBQ.out.cell (World.block_lt_of_cell? _ _ hx176_0)).trans hx176_0
              replace p176 := eq_true p176
              replace q176 := eq_true q176
              have p177 : 0 ≤ (5 : Int) := (by omega)
              have q177 : 5 < (t170.length : Int) := of_decide_eq_true (by with_reducible assumption)
              obtain ⟨ad177, e177, hx177_0⟩ := Kd.at_int HR2.out 5 p177 q177
              have hw177_0 := hx177_0
              (try rw [show ((5 : Int)).toNat = 5 from rfl] at hw177_0)
              (try rw [show 5 * 1 = 5 from rfl] at hw177_0)
              (try simp only [Nat.reduceMul, Nat.reduceEqDiff, Go.Addr.add, ↓reduceIte] at hw177_0)
              obtain rfl : ad172 = ad177 := (by injection e177)
              (try simp only [show (5 : Int).toNat = 5 from rfl, Nat.reduceMul, Nat.reduceEqDiff, Go.Addr.add, ↓reduceIte] at hx177_0)
              have qi177 : (5 < t170.length) = True := eq_true (by omega)
              (try rw [show ((5 : Int)).toNat = 5 from rfl] at hx177_0)
              replace hx177_0 := (HBQ.out.cell (World.block_lt_of_cell? _ _ hx177_0)).trans hx177_0
              replace p177 := eq_true p177
              replace q177 := eq_true q177
              have p178 : 0 ≤ (6 : Int) := (by omega)
              have q178 : 6 < (t170.length : Int) := of_decide_eq_true (by with_reducible assumption)
              obtain ⟨ad178, e178, hx178_0⟩ := Kd.at_int HR2.out 6 p178 q178
              have hw178_0 := hx178_0
              (try rw [show ((6 : Int)).toNat = 6 from rfl] at hw178_0)
              (try rw [show 6 * 1 = 6 from rfl] at hw178_0)
              (try simp only [Nat.reduceMul, Nat.reduceEqDiff, Go.Addr.add, ↓reduceIte] at hw178_0)
              obtain rfl : ad172 = ad178 := (by injection e178)
              (try simp only [show (6 : Int).toNat = 6 from rfl, Nat.reduceMul, Nat.reduceEqDiff, Go.Addr.add, ↓reduceIte] at hx178_0)
              have qi178 : (6 < t170.length) = True := eq_true (by omega)
              (try rw [show ((6 : Int)).toNat = 6 from rfl] at hx178_0)
              replace hx178_0 := (HBQ.out.cell (World.block_lt_of_cell? _ _ hx178_0)).trans hx178_0
              replace p178 := eq_true p178
              replace q178 := eq_true q178
              have p179 : 0 ≤ (7 : Int) := (by omega)
              have q179 : 7 < (t170.length : Int) := of_decide_eq_true (by with_reducible assumption)
              obtain ⟨ad179, e179, hx179_0⟩ := Kd.at_int HR2.out 7 p179 q179
              have hw179_0 := hx179_0
              (try rw [show ((7 : Int)).toNat = 7 from rfl] at hw179_0)
              (try rw [show 7 * 1 = 7 from rfl] at hw179_0)
              (try simp only [Nat.reduceMul, Nat.reduceEqDiff, Go.Addr.add, ↓reduceIte] at hw179_0)
              obtain rfl : ad172 = ad179 := (by injection e179)
              (try simp only [show (7 : Int).toNat = 7 from rfl, Nat.reduceMul, Nat.reduceEqDiff, Go.Addr.add, ↓reduceIte] at hx179_0)
              have qi179 : (7 < t170.length) = True := eq_true (by omega)
              (try rw [show ((7 : Int)).toNat = 7 from rfl] at hx179_0)
              replace hx179_0 := (HBQ.out.cell (World.block_lt_of_cell? _ _ hx179_0)).trans hx179_0
              replace p179 := eq_true p179
              replace q179 := eq_true q179
              refine start_ (n := 30) (S := fun w' => w'.cell? ad171 = some (.string (rdOf ByteArray.empty t163 0)) ∧ w'.cell? ad172 = some (.int .i64 (rd t170 0)) ∧ w'.cell? ⟨ad172.block, ad172.off + 1, none⟩ = some (.int .i64 (rd t170 1)) ∧ w'.cell? ⟨ad172.block, ad172.off + 2, none⟩ = some (.int .i64 (rd t170 2)) ∧ w'.cell? ⟨ad172.block, ad172.off + 3, none⟩ = some (.int .i64 (rd t170 3)) ∧ w'.cell? ⟨ad172.block, ad172.off + 4, none⟩ = some (.int .i64 (rd t170 4)) ∧ w'.cell? ⟨ad172.block, ad172.off + 5, none⟩ = some (.int .i64 (rd t170 5)) ∧ w'.cell? ⟨ad172.block, ad172.off + 6, none⟩ = some (.int .i64 (rd t170 6)) ∧ w'.cell? ⟨ad172.block, ad172.off + 7, none⟩ = some (.int .i64 (rd t170 7))) (ds := []) #[false, false, false, false, false, false, false, false, false, false, false, false, false, false, false, false, false, false, false, false, false, false, false, false, false, false, false, false, false, false] (by kernel_rfl) rfl rfl ⟨((HBQ.out.cell (World.block_lt_of_cell? _ _ hw171_0)).trans hw171_0), ((HBQ.out.cell (World.block_lt_of_cell? _ _ hw172_0)).trans hw172_0), ((HBQ.out.cell (World.block_lt_of_cell? _ _ hw173_0)).trans hw173_0), ((HBQ.out.cell (World.block_lt_of_cell? _ _ hw174_0)).trans hw174_0), ((HBQ.out.cell (World.block_lt_of_cell? _ _ hw175_0)).trans hw175_0), ((HBQ.out.cell (World.block_lt_of_cell? _ _ hw176_0)).trans hw176_0), ((HBQ.out.cell (World.block_lt_of_cell? _ _ hw177_0)).trans hw177_0), ((HBQ.out.cell (World.block_lt_of_cell? _ _ hw178_0)).trans hw178_0), ((HBQ.out.cell (World.block_lt_of_cell? _ _ hw179_0)).trans hw179_0)⟩ (fun hHeld => ?_); refine with_tabW spec_ReadArticle.tab7 spec_ReadArticle.bits7 (fun HT_ HW_ => ?_)
              generalize w11.drew = w33 at BK162 HB HBQ hx171_0 hx172_0 hx173_0 hx174_0 hx175_0 hx176_0 hx177_0 hx178_0 hx179_0 hHeld ⊢
              refine pure_ (i := 0) (N := some 23) (v := ?_) (a' := ?_) #[true, false, false, false, false, false, false, false, false, false, false, false, false, false, false, false, false, false, false, false, false, false, false, false, false, false, false, false, false, false] rfl rfl (any_of HT_.out (by kernel_rfl)) (fun _ _ _ h => h) (Or.inl ⟨by rfl, ?_⟩) ?_ ?_
              rotate_left
              ·
               intro w'
               go_simp
               with_reducible rfl
              rotate_left
              ·
               simp only [Act.put, sT, s0, sS, i64_w, i32_w]
               rfl
              refine pure_ (i := 1) (N := some 24) (v := ?_) (a' := ?_) #[true, true, false, false, false, false, false, false, false, false, false, false, false, false, false, false, false, false, false, false, false, false, false, false, false, false, false, false, false, false] rfl rfl (any_of HT_.out (by kernel_rfl)) (fun _ _ _ h => h) (Or.inl ⟨by rfl, ?_⟩) ?_ ?_
              rotate_left
              ·
               intro w'
               go_simp
               with_reducible rfl
              rotate_left
              ·
               simp only [Act.put, sT, s0, sS, i64_w, i32_w]
               rfl
              refine pure_ (i := 3) (N := some 26) (v := ?_) (a' := ?_) #[true, true, false, true, false, false, false, false, false, false, false, false, false, false, false, false, false, false, false, false, false, false, false, false, false, false, false, false, false, false] rfl rfl (any_of HT_.out (by kernel_rfl)) (fun _ _ _ h => h) (Or.inl ⟨by rfl, ?_⟩) ?_ ?_
              rotate_left
              ·
               intro w'
               go_simp
               with_reducible rfl
              rotate_left
              ·
               simp only [Act.put, sT, s0, sS, i64_w, i32_w]
               rfl
              refine pure_ (i := 4) (N := some 27) (v := ?_) (a' := ?_) #[true, true, false, true, true, false, false, false, false, false, false, false, false, false, false, false, false, false, false, false, false, false, false, false, false, false, false, false, false, false] rfl rfl (any_of HT_.out (by kernel_rfl)) (fun _ _ _ h => h) (Or.inl ⟨by rfl, ?_⟩) ?_ ?_
              rotate_left
              ·
               intro w'
               go_simp
               with_reducible rfl
              rotate_left
              ·
               simp only [Act.put, sT, s0, sS, i64_w, i32_w]
               rfl
              refine pure_ (i := 6) (N := some 29) (v := ?_) (a' := ?_) #[true, true, false, true, true, false, true, false, false, false, false, false, false, false, false, false, false, false, false, false, false, false, false, false, false, false, false, false, false, false] rfl rfl (any_of HT_.out (by kernel_rfl)) (fun _ _ _ h => h) (Or.inl ⟨by rfl, ?_⟩) ?_ ?_
              rotate_left
              ·
               intro w'
               go_simp
               with_reducible rfl
              rotate_left
              ·
               simp only [Act.put, sT, s0, sS, i64_w, i32_w]
               rfl
              refine pure_ (i := 7) (N := some 30) (v := ?_) (a' := ?_) #[true, true, false, true, true, false, true, true, false, false, false, false, false, false, false, false, false, false, false, false, false, false, false, false, false, false, false, false, false, false] rfl rfl (any_of HT_.out (by kernel_rfl)) (fun _ _ _ h => h) (Or.inl ⟨by rfl, ?_⟩) ?_ ?_
              rotate_left
              ·
               intro w'
               go_simp
               with_reducible rfl
              rotate_left
              ·
               simp only [Act.put, sT, s0, sS, i64_w, i32_w]
               rfl
              refine pure_ (i := 9) (N := some 32) (v := ?_) (a' := ?_) #[true, true, false, true, true, false, true, true, false, true, false, false, false, false, false, false, false, false, false, false, false, false, false, false, false, false, false, false, false, false] rfl rfl (any_of HT_.out (by kernel_rfl)) (fun _ _ _ h => h) (Or.inl ⟨by rfl, ?_⟩) ?_ ?_
              rotate_left
              ·
               intro w'
               go_simp
               with_reducible rfl
              rotate_left
              ·
               simp only [Act.put, sT, s0, sS, i64_w, i32_w]
               rfl
              refine pure_ (i := 10) (N := some 33) (v := ?_) (a' := ?_) #[true, true, false, true, true, false, true, true, false, true, true, false, false, false, false, false, false, false, false, false, false, false, false, false, false, false, false, false, false, false] rfl rfl (any_of HT_.out (by kernel_rfl)) (fun _ _ _ h => h) (Or.inl ⟨by rfl, ?_⟩) ?_ ?_
              rotate_left
              ·
               intro w'
               go_simp
               with_reducible rfl
              rotate_left
              ·
               simp only [Act.put, sT, s0, sS, i64_w, i32_w]
               rfl
              refine pure_ (i := 12) (N := some 35) (v := ?_) (a' := ?_) #[true, true, false, true, true, false, true, true, false, true, true, false, true, false, false, false, false, false, false, false, false, false, false, false, false, false, false, false, false, false] rfl rfl (any_of HT_.out (by kernel_rfl)) (fun _ _ _ h => h) (Or.inl ⟨by rfl, ?_⟩) ?_ ?_
              rotate_left
              ·
               intro w'
               go_simp
               with_reducible rfl
              rotate_left
              ·
               simp only [Act.put, sT, s0, sS, i64_w, i32_w]
               rfl
              refine pure_ (i := 13) (N := some 36) (v := ?_) (a' := ?_) #[true, true, false, true, true, false, true, true, false, true, true, false, true, true, false, false, false, false, false, false, false, false, false, false, false, false, false, false, false, false] rfl rfl (any_of HT_.out (by kernel_rfl)) (fun _ _ _ h => h) (Or.inl ⟨by rfl, ?_⟩) ?_ ?_
              rotate_left
              ·
               intro w'
               go_simp
               with_reducible rfl
              rotate_left
              ·
               simp only [Act.put, sT, s0, sS, i64_w, i32_w]
               rfl
              refine pure_ (i := 15) (N := some 38) (v := ?_) (a' := ?_) #[true, true, false, true, true, false, true, true, false, true, true, false, true, true, false, true, false, false, false, false, false, false, false, false, false, false, false, false, false, false] rfl rfl (any_of HT_.out (by kernel_rfl)) (fun _ _ _ h => h) (Or.inl ⟨by rfl, ?_⟩) ?_ ?_
              rotate_left
              ·
               intro w'
               go_simp
               with_reducible rfl
              rotate_left
              ·
               simp only [Act.put, sT, s0, sS, i64_w, i32_w]
               rfl
              refine pure_ (i := 16) (N := some 39) (v := ?_) (a' := ?_) #[true, true, false, true, true, false, true, true, false, true, true, false, true, true, false, true, true, false, false, false, false, false, false, false, false, false, false, false, false, false] rfl rfl (any_of HT_.out (by kernel_rfl)) (fun _ _ _ h => h) (Or.inl ⟨by rfl, ?_⟩) ?_ ?_
              rotate_left
              ·
               intro w'
               go_simp
               with_reducible rfl
              rotate_left
              ·
               simp only [Act.put, sT, s0, sS, i64_w, i32_w]
               rfl
              refine pure_ (i := 18) (N := some 41) (v := ?_) (a' := ?_) #[true, true, false, true, true, false, true, true, false, true, true, false, true, true, false, true, true, false, true, false, false, false, false, false, false, false, false, false, false, false] rfl rfl (any_of HT_.out (by kernel_rfl)) (fun _ _ _ h => h) (Or.inl ⟨by rfl, ?_⟩) ?_ ?_
              rotate_left
              ·
               intro w'
               go_simp
               with_reducible rfl
              rotate_left
              ·
               simp only [Act.put, sT, s0, sS, i64_w, i32_w]
               rfl
              refine pure_ (i := 19) (N := some 42) (v := ?_) (a' := ?_) #[true, true, false, true, true, false, true, true, false, true, true, false, true, true, false, true, true, false, true, true, false, false, false, false, false, false, false, false, false, false] rfl rfl (any_of HT_.out (by kernel_rfl)) (fun _ _ _ h => h) (Or.inl ⟨by rfl, ?_⟩) ?_ ?_
              rotate_left
              ·
               intro w'
               go_simp
               with_reducible rfl
              rotate_left
              ·
               simp only [Act.put, sT, s0, sS, i64_w, i32_w]
               rfl
              refine pure_ (i := 21) (N := some 44) (v := ?_) (a' := ?_) #[true, true, false, true, true, false, true, true, false, true, true, false, true, true, false, true, true, false, true, true, false, true, false, false, false, false, false, false, false, false] rfl rfl (any_of HT_.out (by kernel_rfl)) (fun _ _ _ h => h) (Or.inl ⟨by rfl, ?_⟩) ?_ ?_
              rotate_left
              ·
               intro w'
               go_simp
               with_reducible rfl
              rotate_left
              ·
               simp only [Act.put, sT, s0, sS, i64_w, i32_w]
               rfl
              refine pure_ (i := 22) (N := some 45) (v := ?_) (a' := ?_) #[true, true, false, true, true, false, true, true, false, true, true, false, true, true, false, true, true, false, true, true, false, true, true, false, false, false, false, false, false, false] rfl rfl (any_of HT_.out (by kernel_rfl)) (fun _ _ _ h => h) (Or.inl ⟨by rfl, ?_⟩) ?_ ?_
              rotate_left
              ·
               intro w'
               go_simp
               with_reducible rfl
              rotate_left
              ·
               simp only [Act.put, sT, s0, sS, i64_w, i32_w]
               rfl
              refine pure_ (i := 24) (N := some 47) (v := ?_) (a' := ?_) #[true, true, false, true, true, false, true, true, false, true, true, false, true, true, false, true, true, false, true, true, false, true, true, false, true, false, false, false, false, false] rfl rfl (any_of HT_.out (by kernel_rfl)) (fun _ _ _ h => h) (Or.inl ⟨by rfl, ?_⟩) ?_ ?_
              rotate_left
              ·
               intro w'
               go_simp
               with_reducible rfl
              rotate_left
              ·
               simp only [Act.put, sT, s0, sS, i64_w, i32_w]
               rfl
              refine pure_ (i := 25) (N := some 48) (v := ?_) (a' := ?_) #[true, true, false, true, true, false, true, true, false, true, true, false, true, true, false, true, true, false, true, true, false, true, true, false, true, true, false, false, false, false] rfl rfl (any_of HT_.out (by kernel_rfl)) (fun _ _ _ h => h) (Or.inl ⟨by rfl, ?_⟩) ?_ ?_
              rotate_left
              ·
               intro w'
               go_simp
               with_reducible rfl
              rotate_left
              ·
               simp only [Act.put, sT, s0, sS, i64_w, i32_w]
               rfl
              refine take_ (i := 2) (N := some 25) (v := ?_) (a' := ?_) #[true, true, true, true, true, false, true, true, false, true, true, false, true, true, false, true, true, false, true, true, false, true, true, false, true, true, false, false, false, false] rfl rfl (take_ofW HT_.out HW_.out (by kernel_rfl)) (fun _ _ _ h => h) (Or.inl ⟨by rfl, ?_⟩) hHeld ?_ ?_
              rotate_left
              ·
               rintro w' ⟨s0, s1, s2, s3, s4, s5, s6, s7, s8⟩
               go_simp
               with_reducible rfl
              rotate_left
              ·
               simp only [Act.put, sT, s0, sS, i64_w, i32_w]
               rfl
              refine take_ (i := 5) (N := some 28) (v := ?_) (a' := ?_) #[true, true, true, true, true, true, true, true, false, true, true, false, true, true, false, true, true, false, true, true, false, true, true, false, true, true, false, false, false, false] rfl rfl (take_ofW HT_.out HW_.out (by kernel_rfl)) (fun _ _ _ h => h) (Or.inl ⟨by rfl, ?_⟩) hHeld ?_ ?_
              rotate_left
              ·
               rintro w' ⟨s0, s1, s2, s3, s4, s5, s6, s7, s8⟩
               go_simp
               with_reducible rfl
              rotate_left
              ·
               simp only [Act.put, sT, s0, sS, i64_w, i32_w]
               rfl
              refine take_ (i := 8) (N := some 31) (v := ?_) (a' := ?_) #[true, true, true, true, true, true, true, true, true, true, true, false, true, true, false, true, true, false, true, true, false, true, true, false, true, true, false, false, false, false] rfl rfl (take_ofW HT_.out HW_.out (by kernel_rfl)) (fun _ _ _ h => h) (Or.inl ⟨by rfl, ?_⟩) hHeld ?_ ?_
              rotate_left
              ·
               rintro w' ⟨s0, s1, s2, s3, s4, s5, s6, s7, s8⟩
               go_simp
               with_reducible rfl
              rotate_left
              ·
               simp only [Act.put, sT, s0, sS, i64_w, i32_w]
               rfl
              refine take_ (i := 11) (N := some 34) (v := ?_) (a' := ?_) #[true, true, true, true, true, true, true, true, true, true, true, true, true, true, false, true, true, false, true, true, false, true, true, false, true, true, false, false, false, false] rfl rfl (take_ofW HT_.out HW_.out (by kernel_rfl)) (fun _ _ _ h => h) (Or.inl ⟨by rfl, ?_⟩) hHeld ?_ ?_
              rotate_left
              ·
               rintro w' ⟨s0, s1, s2, s3, s4, s5, s6, s7, s8⟩
               go_simp
               with_reducible rfl
              rotate_left
              ·
               simp only [Act.put, sT, s0, sS, i64_w, i32_w]
               rfl
              refine take_ (i := 14) (N := some 37) (v := ?_) (a' := ?_) #[true, true, true, true, true, true, true, true, true, true, true, true, true, true, true, true, true, false, true, true, false, true, true, false, true, true, false, false, false, false] rfl rfl (take_ofW HT_.out HW_.out (by kernel_rfl)) (fun _ _ _ h => h) (Or.inl ⟨by rfl, ?_⟩) hHeld ?_ ?_
              rotate_left
              ·
               rintro w' ⟨s0, s1, s2, s3, s4, s5, s6, s7, s8⟩
               go_simp
               with_reducible rfl
              rotate_left
              ·
               simp only [Act.put, sT, s0, sS, i64_w, i32_w]
               rfl
              refine take_ (i := 17) (N := some 40) (v := ?_) (a' := ?_) #[true, true, true, true, true, true, true, true, true, true, true, true, true, true, true, true, true, true, true, true, false, true, true, false, true, true, false, false, false, false] rfl rfl (take_ofW HT_.out HW_.out (by kernel_rfl)) (fun _ _ _ h => h) (Or.inl ⟨by rfl, ?_⟩) hHeld ?_ ?_
              rotate_left
              ·
               rintro w' ⟨s0, s1, s2, s3, s4, s5, s6, s7, s8⟩
               go_simp
               with_reducible rfl
              rotate_left
              ·
               simp only [Act.put, sT, s0, sS, i64_w, i32_w]
               rfl
              refine take_ (i := 20) (N := some 43) (v := ?_) (a' := ?_) #[true, true, true, true, true, true, true, true, true, true, true, true, true, true, true, true, true, true, true, true, true, true, true, false, true, true, false, false, false, false] rfl rfl (take_ofW HT_.out HW_.out (by kernel_rfl)) (fun _ _ _ h => h) (Or.inl ⟨by rfl, ?_⟩) hHeld ?_ ?_
              rotate_left
              ·
               rintro w' ⟨s0, s1, s2, s3, s4, s5, s6, s7, s8⟩
               go_simp
               with_reducible rfl
              rotate_left
              ·
               simp only [Act.put, sT, s0, sS, i64_w, i32_w]
               rfl
              refine take_ (i := 23) (N := some 46) (v := ?_) (a' := ?_) #[true, true, true, true, true, true, true, true, true, true, true, true, true, true, true, true, true, true, true, true, true, true, true, true, true, true, false, false, false, false] rfl rfl (take_ofW HT_.out HW_.out (by kernel_rfl)) (fun _ _ _ h => h) (Or.inl ⟨by rfl, ?_⟩) hHeld ?_ ?_
              rotate_left
              ·
               rintro w' ⟨s0, s1, s2, s3, s4, s5, s6, s7, s8⟩
               go_simp
               with_reducible rfl
              rotate_left
              ·
               simp only [Act.put, sT, s0, sS, i64_w, i32_w]
               rfl
              refine take_ (i := 26) (N := some 49) (v := ?_) (a' := ?_) #[true, true, true, true, true, true, true, true, true, true, true, true, true, true, true, true, true, true, true, true, true, true, true, true, true, true, true, false, false, false] rfl rfl (take_ofW HT_.out HW_.out (by kernel_rfl)) (fun _ _ _ h => h) (Or.inl ⟨by rfl, ?_⟩) hHeld ?_ ?_
              rotate_left
              ·
               rintro w' ⟨s0, s1, s2, s3, s4, s5, s6, s7, s8⟩
               go_simp
               with_reducible rfl
              rotate_left
              ·
               simp only [Act.put, sT, s0, sS, i64_w, i32_w]
               rfl
              refine pure_ (i := 27) (N := some 50) (v := ?_) (a' := ?_) #[true, true, true, true, true, true, true, true, true, true, true, true, true, true, true, true, true, true, true, true, true, true, true, true, true, true, true, true, false, false] rfl rfl (any_of HT_.out (by kernel_rfl)) (fun _ _ _ h => h) (Or.inl ⟨by rfl, ?_⟩) ?_ ?_
              rotate_left
              ·
               intro w'
               go_simp
               with_reducible rfl
              rotate_left
              ·
               simp only [Act.put, sT, s0, sS, i64_w, i32_w]
               rfl
              refine one_ (i := 28) (N := some 7) #[true, true, true, true, true, true, true, true, true, true, true, true, true, true, true, true, true, true, true, true, true, true, true, true, true, true, true, true, true, false] rfl rfl (one_of HT_.out (by kernel_rfl)) (by decide) (fun K hK => ?_)
              refine box_step ?hg (N := 7) ?hd (cs := #[.string (⟨#[]⟩ : ByteArray), .int .i64 0, .int .i64 0, .int .i64 0, .int .i64 0, .int .i64 0, .int .i64 0, .int .i64 0, .int .i64 0]) (t := 26) ?hr ?_; (case hd => rfl); (case hg => rfl); (case hr => first | (go_simp; done) | (go_simp; rfl))
              intro gb180 hg w34 hbox hb
              have n0_ := Aside0.mk (blk_below (g := gb162) (o := .cells #[.string (⟨#[]⟩ : ByteArray), .int .i64 0, .int .i64 0, .int .i64 0, .int .i64 0, .int .i64 0, .int .i64 0, .int .i64 0, .int .i64 0] 26 (0, 0)) (by (with_reducible repeat first | apply bN | apply bD | apply bA); exact BK162.out) hb)
              have n1_ := Aside0.mk (below_step (by repeat (first | (with_reducible first | exact HB.out | apply lA | apply lN | apply lD | refine below_set ?_ GE162.out) | exact HB.out)) hb)
              have n2_ := Aside0.mk (hbox)
              have n3_ := Aside0.mk ((by rw [hg]; exact (below_size (by repeat (first | (with_reducible first | exact HBQ.out | apply lA | apply lN | apply lD | refine below_set ?_ GE162.out) | exact HBQ.out))) : w11.heap.size ≤ gb180))
              have nq_ := Aside0.mk (below_step (by repeat (first | (with_reducible first | exact HBQ.out | apply lA | apply lN | apply lD) | exact HBQ.out)) hb)
              have n4_ := Aside0.mk ((by rw [hg]; exact (below_size (by repeat (first | (with_reducible first | exact HB.out | apply lA | apply lN | apply lD | refine below_set ?_ GE162.out) | exact HB.out))) : w.heap.size ≤ gb180))
              have n5_ := Aside0.mk ((by rw [hg]; exact Nat.ne_of_lt (blk_lt (g := gb162) (o := .cells #[.string (⟨#[]⟩ : ByteArray), .int .i64 0, .int .i64 0, .int .i64 0, .int .i64 0, .int .i64 0, .int .i64 0, .int .i64 0, .int .i64 0] 26 (0, 0)) (by (with_reducible repeat first | apply bN | apply bD | apply bA); exact BK162.out)) : gb162 ≠ gb180))
              have n6_ := Aside0.mk ((by rw [hg]; exact Nat.ne_of_gt (blk_lt (g := gb162) (o := .cells #[.string (⟨#[]⟩ : ByteArray), .int .i64 0, .int .i64 0, .int .i64 0, .int .i64 0, .int .i64 0, .int .i64 0, .int .i64 0, .int .i64 0] 26 (0, 0)) (by (with_reducible repeat first | apply bN | apply bD | apply bA); exact BK162.out)) : gb180 ≠ gb162))
              clear BK162
              clear HB
              have BK162 := n0_
              have HB := n1_
              clear HBQ
              have HBQ := nq_
              clear nq_
              have BK180 := n2_
              have GW180 := n3_
              have GE180 := n4_
              have NB162_180 := n5_
              have NB180_162 := n6_
              clear n0_ n1_ n2_ n3_ n4_ n5_ n6_
              clear hb hbox hg
              refine hK.out _ _ ⟨((HBQ.out.cell (World.block_lt_of_cell? _ _ hw171_0)).trans hw171_0), ((HBQ.out.cell (World.block_lt_of_cell? _ _ hw172_0)).trans hw172_0), ((HBQ.out.cell (World.block_lt_of_cell? _ _ hw173_0)).trans hw173_0), ((HBQ.out.cell (World.block_lt_of_cell? _ _ hw174_0)).trans hw174_0), ((HBQ.out.cell (World.block_lt_of_cell? _ _ hw175_0)).trans hw175_0), ((HBQ.out.cell (World.block_lt_of_cell? _ _ hw176_0)).trans hw176_0), ((HBQ.out.cell (World.block_lt_of_cell? _ _ hw177_0)).trans hw177_0), ((HBQ.out.cell (World.block_lt_of_cell? _ _ hw178_0)).trans hw178_0), ((HBQ.out.cell (World.block_lt_of_cell? _ _ hw179_0)).trans hw179_0)⟩ (fun hHeld => ?_)
              clear hK K
              refine norm_ (a' := ?_) ?_ ?_
              rotate_left
              ·
               show Act.put _ (some 7) _ = _
               simp only [Act.put, sT, s0, sS, i64_w, i32_w]
               rfl
              refine one_ (i := 29) (N := none) #[true, true, true, true, true, true, true, true, true, true, true, true, true, true, true, true, true, true, true, true, true, true, true, true, true, true, true, true, true, true] rfl rfl (one_of HT_.out (by kernel_rfl)) (by decide) (fun K hK => ?_)
              have hs35 : w34.cell? ⟨gb180, 0, none⟩ = some (.string (⟨#[]⟩ : ByteArray)) := (blk_cell BK180.out 0).trans rfl
              have hfs35 := blk_frozen BK180.out 0
              have hns35_0 := NB162_180.out
              have hms35_0 := NB180_162.out
              have hs36 : w34.cell? ⟨gb180, 1, none⟩ = some (.int .i64 0) := (blk_cell BK180.out 1).trans rfl
              have hfs36 := blk_frozen BK180.out 1
              have hns36_0 := NB162_180.out
              have hms36_0 := NB180_162.out
              have hs37 : w34.cell? ⟨gb180, 2, none⟩ = some (.int .i64 0) := (blk_cell BK180.out 2).trans rfl
              have hfs37 := blk_frozen BK180.out 2
              have hns37_0 := NB162_180.out
              have hms37_0 := NB180_162.out
              have hs38 : w34.cell? ⟨gb180, 3, none⟩ = some (.int .i64 0) := (blk_cell BK180.out 3).trans rfl
              have hfs38 := blk_frozen BK180.out 3
              have hns38_0 := NB162_180.out
              have hms38_0 := NB180_162.out
              have hs39 : w34.cell? ⟨gb180, 4, none⟩ = some (.int .i64 0) := (blk_cell BK180.out 4).trans rfl
              have hfs39 := blk_frozen BK180.out 4
              have hns39_0 := NB162_180.out
              have hms39_0 := NB180_162.out
              have hs40 : w34.cell? ⟨gb180, 5, none⟩ = some (.int .i64 0) := (blk_cell BK180.out 5).trans rfl
              have hfs40 := blk_frozen BK180.out 5
              have hns40_0 := NB162_180.out
              have hms40_0 := NB180_162.out
              have hs41 : w34.cell? ⟨gb180, 6, none⟩ = some (.int .i64 0) := (blk_cell BK180.out 6).trans rfl
              have hfs41 := blk_frozen BK180.out 6
              have hns41_0 := NB162_180.out
              have hms41_0 := NB180_162.out
              have hs42 : w34.cell? ⟨gb180, 7, none⟩ = some (.int .i64 0) := (blk_cell BK180.out 7).trans rfl
              have hfs42 := blk_frozen BK180.out 7
              have hns42_0 := NB162_180.out
              have hms42_0 := NB180_162.out
              have hs43 : w34.cell? ⟨gb180, 8, none⟩ = some (.int .i64 0) := (blk_cell BK180.out 8).trans rfl
              have hfs43 := blk_frozen BK180.out 8
              have hns43_0 := NB162_180.out
              have hms43_0 := NB180_162.out
              refine skip_ (w1 := ?_) (by rfl) rfl ?_ ?_
              rotate_left
              ·
               go_simp
               rfl
              refine hK.out _ _ ⟨((cf9 (by first | exact Nat.ne_of_lt (Nat.lt_of_lt_of_le (by have := World.block_lt_of_cell? _ _ hw171_0; first | rwa [add_block] at this | exact this) GW180.out) | (rw [add_block]; exact Nat.ne_of_lt (Nat.lt_of_lt_of_le (by have := World.block_lt_of_cell? _ _ hw171_0; first | rwa [add_block] at this | exact this) GW180.out)) | (show (Addr.add _ _).block ≠ _; rw [add_block]; exact Nat.ne_of_lt (Nat.lt_of_lt_of_le (by have := World.block_lt_of_cell? _ _ hw171_0; first | rwa [add_block] at this | exact this) GW180.out)) | (dsimp only; exact Nat.ne_of_lt (Nat.lt_of_lt_of_le (by have := World.block_lt_of_cell? _ _ hw171_0; first | rwa [add_block] at this | exact this) GW180.out))) _ _ _ _ _ _ _ _ _).trans (hHeld.1)), ((cf9 (by first | exact Nat.ne_of_lt (Nat.lt_of_lt_of_le (by have := World.block_lt_of_cell? _ _ hw172_0; first | rwa [add_block] at this | exact this) GW180.out) | (rw [add_block]; exact Nat.ne_of_lt (Nat.lt_of_lt_of_le (by have := World.block_lt_of_cell? _ _ hw172_0; first | rwa [add_block] at this | exact this) GW180.out)) | (show (Addr.add _ _).block ≠ _; rw [add_block]; exact Nat.ne_of_lt (Nat.lt_of_lt_of_le (by have := World.block_lt_of_cell? _ _ hw172_0; first | rwa [add_block] at this | exact this) GW180.out)) | (dsimp only; exact Nat.ne_of_lt (Nat.lt_of_lt_of_le (by have := World.block_lt_of_cell? _ _ hw172_0; first | rwa [add_block] at this | exact this) GW180.out))) _ _ _ _ _ _ _ _ _).trans (hHeld.2.1)), ((cf9 (by first | exact Nat.ne_of_lt (Nat.lt_of_lt_of_le (by have := World.block_lt_of_cell? _ _ hw173_0; first | rwa [add_block] at this | exact this) GW180.out) | (rw [add_block]; exact Nat.ne_of_lt (Nat.lt_of_lt_of_le (by have := World.block_lt_of_cell? _ _ hw173_0; first | rwa [add_block] at this | exact this) GW180.out)) | (show (Addr.add _ _).block ≠ _; rw [add_block]; exact Nat.ne_of_lt (Nat.lt_of_lt_of_le (by have := World.block_lt_of_cell? _ _ hw173_0; first | rwa [add_block] at this | exact this) GW180.out)) | (dsimp only; exact Nat.ne_of_lt (Nat.lt_of_lt_of_le (by have := World.block_lt_of_cell? _ _ hw173_0; first | rwa [add_block] at this | exact this) GW180.out))) _ _ _ _ _ _ _ _ _).trans (hHeld.2.2.1)), ((cf9 (by first | exact Nat.ne_of_lt (Nat.lt_of_lt_of_le (by have := World.block_lt_of_cell? _ _ hw174_0; first | rwa [add_block] at this | exact this) GW180.out) | (rw [add_block]; exact Nat.ne_of_lt (Nat.lt_of_lt_of_le (by have := World.block_lt_of_cell? _ _ hw174_0; first | rwa [add_block] at this | exact this) GW180.out)) | (show (Addr.add _ _).block ≠ _; rw [add_block]; exact Nat.ne_of_lt (Nat.lt_of_lt_of_le (by have := World.block_lt_of_cell? _ _ hw174_0; first | rwa [add_block] at this | exact this) GW180.out)) | (dsimp only; exact Nat.ne_of_lt (Nat.lt_of_lt_of_le (by have := World.block_lt_of_cell? _ _ hw174_0; first | rwa [add_block] at this | exact this) GW180.out))) _ _ _ _ _ _ _ _ _).trans (hHeld.2.2.2.1)), ((cf9 (by first | exact Nat.ne_of_lt (Nat.lt_of_lt_of_le (by have := World.block_lt_of_cell? _ _ hw175_0; first | rwa [add_block] at this | exact this) GW180.out) | (rw [add_block]; exact Nat.ne_of_lt (Nat.lt_of_lt_of_le (by have := World.block_lt_of_cell? _ _ hw175_0; first | rwa [add_block] at this | exact this) GW180.out)) | (show (Addr.add _ _).block ≠ _; rw [add_block]; exact Nat.ne_of_lt (Nat.lt_of_lt_of_le (by have := World.block_lt_of_cell? _ _ hw175_0; first | rwa [add_block] at this | exact this) GW180.out)) | (dsimp only; exact Nat.ne_of_lt (Nat.lt_of_lt_of_le (by have := World.block_lt_of_cell? _ _ hw175_0; first | rwa [add_block] at this | exact this) GW180.out))) _ _ _ _ _ _ _ _ _).trans (hHeld.2.2.2.2.1)), ((cf9 (by first | exact Nat.ne_of_lt (Nat.lt_of_lt_of_le (by have := World.block_lt_of_cell? _ _ hw176_0; first | rwa [add_block] at this | exact this) GW180.out) | (rw [add_block]; exact Nat.ne_of_lt (Nat.lt_of_lt_of_le (by have := World.block_lt_of_cell? _ _ hw176_0; first | rwa [add_block] at this | exact this) GW180.out)) | (show (Addr.add _ _).block ≠ _; rw [add_block]; exact Nat.ne_of_lt (Nat.lt_of_lt_of_le (by have := World.block_lt_of_cell? _ _ hw176_0; first | rwa [add_block] at this | exact this) GW180.out)) | (dsimp only; exact Nat.ne_of_lt (Nat.lt_of_lt_of_le (by have := World.block_lt_of_cell? _ _ hw176_0; first | rwa [add_block] at this | exact this) GW180.out))) _ _ _ _ _ _ _ _ _).trans (hHeld.2.2.2.2.2.1)), ((cf9 (by first | exact Nat.ne_of_lt (Nat.lt_of_lt_of_le (by have := World.block_lt_of_cell? _ _ hw177_0; first | rwa [add_block] at this | exact this) GW180.out) | (rw [add_block]; exact Nat.ne_of_lt (Nat.lt_of_lt_of_le (by have := World.block_lt_of_cell? _ _ hw177_0; first | rwa [add_block] at this | exact this) GW180.out)) | (show (Addr.add _ _).block ≠ _; rw [add_block]; exact Nat.ne_of_lt (Nat.lt_of_lt_of_le (by have := World.block_lt_of_cell? _ _ hw177_0; first | rwa [add_block] at this | exact this) GW180.out)) | (dsimp only; exact Nat.ne_of_lt (Nat.lt_of_lt_of_le (by have := World.block_lt_of_cell? _ _ hw177_0; first | rwa [add_block] at this | exact this) GW180.out))) _ _ _ _ _ _ _ _ _).trans (hHeld.2.2.2.2.2.2.1)), ((cf9 (by first | exact Nat.ne_of_lt (Nat.lt_of_lt_of_le (by have := World.block_lt_of_cell? _ _ hw178_0; first | rwa [add_block] at this | exact this) GW180.out) | (rw [add_block]; exact Nat.ne_of_lt (Nat.lt_of_lt_of_le (by have := World.block_lt_of_cell? _ _ hw178_0; first | rwa [add_block] at this | exact this) GW180.out)) | (show (Addr.add _ _).block ≠ _; rw [add_block]; exact Nat.ne_of_lt (Nat.lt_of_lt_of_le (by have := World.block_lt_of_cell? _ _ hw178_0; first | rwa [add_block] at this | exact this) GW180.out)) | (dsimp only; exact Nat.ne_of_lt (Nat.lt_of_lt_of_le (by have := World.block_lt_of_cell? _ _ hw178_0; first | rwa [add_block] at this | exact this) GW180.out))) _ _ _ _ _ _ _ _ _).trans (hHeld.2.2.2.2.2.2.2.1)), ((cf9 (by first | exact Nat.ne_of_lt (Nat.lt_of_lt_of_le (by have := World.block_lt_of_cell? _ _ hw179_0; first | rwa [add_block] at this | exact this) GW180.out) | (rw [add_block]; exact Nat.ne_of_lt (Nat.lt_of_lt_of_le (by have := World.block_lt_of_cell? _ _ hw179_0; first | rwa [add_block] at this | exact this) GW180.out)) | (show (Addr.add _ _).block ≠ _; rw [add_block]; exact Nat.ne_of_lt (Nat.lt_of_lt_of_le (by have := World.block_lt_of_cell? _ _ hw179_0; first | rwa [add_block] at this | exact this) GW180.out)) | (dsimp only; exact Nat.ne_of_lt (Nat.lt_of_lt_of_le (by have := World.block_lt_of_cell? _ _ hw179_0; first | rwa [add_block] at this | exact this) GW180.out))) _ _ _ _ _ _ _ _ _).trans (hHeld.2.2.2.2.2.2.2.2))⟩ (fun hHeld => ?_)
              clear hK K
              refine done_ (done_of HT_.out (by kernel_rfl)) ?_
              have hnb44 := NB180_162.out
              have hnc44 := NB162_180.out
              have hcz45_0 : w34.cell? ⟨gb180, 0, none⟩ = some (.string (⟨#[]⟩ : ByteArray)) := (blk_cell BK180.out 0).trans rfl
              have hcz45_1 : w34.cell? ⟨gb180, 1, none⟩ = some (.int .i64 0) := (blk_cell BK180.out 1).trans rfl
              have hcz45_2 : w34.cell? ⟨gb180, 2, none⟩ = some (.int .i64 0) := (blk_cell BK180.out 2).trans rfl
              have hcz45_3 : w34.cell? ⟨gb180, 3, none⟩ = some (.int .i64 0) := (blk_cell BK180.out 3).trans rfl
              have hcz45_4 : w34.cell? ⟨gb180, 4, none⟩ = some (.int .i64 0) := (blk_cell BK180.out 4).trans rfl
              have hcz45_5 : w34.cell? ⟨gb180, 5, none⟩ = some (.int .i64 0) := (blk_cell BK180.out 5).trans rfl
              have hcz45_6 : w34.cell? ⟨gb180, 6, none⟩ = some (.int .i64 0) := (blk_cell BK180.out 6).trans rfl
              have hcz45_7 : w34.cell? ⟨gb180, 7, none⟩ = some (.int .i64 0) := (blk_cell BK180.out 7).trans rfl
              have hcz45_8 : w34.cell? ⟨gb180, 8, none⟩ = some (.int .i64 0) := (blk_cell BK180.out 8).trans rfl
              have hfz45_0 := blk_frozen BK180.out 0
              have hfz45_1 := blk_frozen BK180.out 1
              have hfz45_2 := blk_frozen BK180.out 2
              have hfz45_3 := blk_frozen BK180.out 3
              have hfz45_4 := blk_frozen BK180.out 4
              have hfz45_5 := blk_frozen BK180.out 5
              have hfz45_6 := blk_frozen BK180.out 6
              have hfz45_7 := blk_frozen BK180.out 7
              have hfz45_8 := blk_frozen BK180.out 8
              try go_wp2_with (first | ((with_reducible refine gate_callee (f := 16) rfl ?_); refine goesL_ (some 52) rfl rfl Try.func16 (by kernel_rfl) rfl #[.agg #[.string (rdOf ByteArray.empty t163 0), .int .i64 (rd t170 0), .int .i64 (rd t170 1), .int .i64 (rd t170 2), .int .i64 (rd t170 3), .int .i64 (rd t170 4), .int .i64 (rd t170 5), .int .i64 (rd t170 6), .int .i64 (rd t170 7)]] rfl (by (try simp only [List.map_toArray, List.map_cons, List.map_nil]); first | done | rfl | (go_simp; done) | simp) ?_; (with_reducible refine (spec_IsArticle.calls k (rdOf ByteArray.empty t163 0) (rd t170 0) (rd t170 1) (rd t170 2) (rd t170 3) (rd t170 4) (rd t170 5) (rd t170 6) (rd t170 7) false _ A13.out).mono ?_); rintro e w46 ⟨rfl, hb⟩; refine ⟨_, rfl, ?_⟩; have n0_ := Aside0.mk (blk_below (g := gb162) (o := .cells #[.string (⟨#[]⟩ : ByteArray), .int .i64 0, .int .i64 0, .int .i64 0, .int .i64 0, .int .i64 0, .int .i64 0, .int .i64 0, .int .i64 0] 26 (0, 0)) (by (with_reducible repeat first | apply bN | apply bD | apply bA); refine blk_far ?_ NB162_180.out _; (with_reducible repeat first | apply bN | apply bD | apply bA); refine blk_far ?_ NB162_180.out _; (with_reducible repeat first | apply bN | apply bD | apply bA); refine blk_far ?_ NB162_180.out _; (with_reducible repeat first | apply bN | apply bD | apply bA); refine blk_far ?_ NB162_180.out _; (with_reducible repeat first | apply bN | apply bD | apply bA); refine blk_far ?_ NB162_180.out _; (with_reducible repeat first | apply bN | apply bD | apply bA); refine blk_far ?_ NB162_180.out _; (with_reducible repeat first | apply bN | apply bD | apply bA); refine blk_far ?_ NB162_180.out _; (with_reducible repeat first | apply bN | apply bD | apply bA); refine blk_far ?_ NB162_180.out _; (with_reducible repeat first | apply bN | apply bD | apply bA); refine blk_far ?_ NB162_180.out _; (with_reducible repeat first | apply bN | apply bD | apply bA); exact BK162.out) hb); have n1_ := Aside0.mk (blk_below (g := gb180) (o := .cells #[.string (rdOf ByteArray.empty t163 0), .int .i64 (rd t170 0), .int .i64 (rd t170 1), .int .i64 (rd t170 2), .int .i64 (rd t170 3), .int .i64 (rd t170 4), .int .i64 (rd t170 5), .int .i64 (rd t170 6), .int .i64 (rd t170 7)] 26 (0, 0)) (by (with_reducible repeat first | apply bN | apply bD | apply bA); refine blk_put (cs := #[.string (rdOf ByteArray.empty t163 0), .int .i64 (rd t170 0), .int .i64 (rd t170 1), .int .i64 (rd t170 2), .int .i64 (rd t170 3), .int .i64 (rd t170 4), .int .i64 (rd t170 5), .int .i64 (rd t170 6), .int .i64 0]) ?_ 8 _ rfl; (with_reducible repeat first | apply bN | apply bD | apply bA); refine blk_put (cs := #[.string (rdOf ByteArray.empty t163 0), .int .i64 (rd t170 0), .int .i64 (rd t170 1), .int .i64 (rd t170 2), .int .i64 (rd t170 3), .int .i64 (rd t170 4), .int .i64 (rd t170 5), .int .i64 0, .int .i64 0]) ?_ 7 _ rfl; (with_reducible repeat first | apply bN | apply bD | apply bA); refine blk_put (cs := #[.string (rdOf ByteArray.empty t163 0), .int .i64 (rd t170 0), .int .i64 (rd t170 1), .int .i64 (rd t170 2), .int .i64 (rd t170 3), .int .i64 (rd t170 4), .int .i64 0, .int .i64 0, .int .i64 0]) ?_ 6 _ rfl; (with_reducible repeat first | apply bN | apply bD | apply bA); refine blk_put (cs := #[.string (rdOf ByteArray.empty t163 0), .int .i64 (rd t170 0), .int .i64 (rd t170 1), .int .i64 (rd t170 2), .int .i64 (rd t170 3), .int .i64 0, .int .i64 0, .int .i64 0, .int .i64 0]) ?_ 5 _ rfl; (with_reducible repeat first | apply bN | apply bD | apply bA); refine blk_put (cs := #[.string (rdOf ByteArray.empty t163 0), .int .i64 (rd t170 0), .int .i64 (rd t170 1), .int .i64 (rd t170 2), .int .i64 0, .int .i64 0, .int .i64 0, .int .i64 0, .int .i64 0]) ?_ 4 _ rfl; (with_reducible repeat first | apply bN | apply bD | apply bA); refine blk_put (cs := #[.string (rdOf ByteArray.empty t163 0), .int .i64 (rd t170 0), .int .i64 (rd t170 1), .int .i64 0, .int .i64 0, .int .i64 0, .int .i64 0, .int .i64 0, .int .i64 0]) ?_ 3 _ rfl; (with_reducible repeat first | apply bN | apply bD | apply bA); refine blk_put (cs := #[.string (rdOf ByteArray.empty t163 0), .int .i64 (rd t170 0), .int .i64 0, .int .i64 0, .int .i64 0, .int .i64 0, .int .i64 0, .int .i64 0, .int .i64 0]) ?_ 2 _ rfl; (with_reducible repeat first | apply bN | apply bD | apply bA); refine blk_put (cs := #[.string (rdOf ByteArray.empty t163 0), .int .i64 0, .int .i64 0, .int .i64 0, .int .i64 0, .int .i64 0, .int .i64 0, .int .i64 0, .int .i64 0]) ?_ 1 _ rfl; (with_reducible repeat first | apply bN | apply bD | apply bA); refine blk_put (cs := #[.string (⟨#[]⟩ : ByteArray), .int .i64 0, .int .i64 0, .int .i64 0, .int .i64 0, .int .i64 0, .int .i64 0, .int .i64 0, .int .i64 0]) ?_ 0 _ rfl; (with_reducible repeat first | apply bN | apply bD | apply bA); exact BK180.out) hb); have n2_ := Aside0.mk (below_step (by repeat (first | (with_reducible first | exact HB.out | apply lA | apply lN | apply lD | refine below_set ?_ GE162.out | refine below_set ?_ GE180.out) | exact HB.out)) hb); clear BK162; clear BK180; clear HB; have BK162 := n0_; have BK180 := n1_; have HB := n2_; clear n0_ n1_ n2_; (try clear hb); (try clear hb2); (try clear hk); (try clear hi); have hcz47_0 : w46.cell? ⟨gb162, 0, none⟩ = some (.string (⟨#[]⟩ : ByteArray)) := (blk_cell BK162.out 0).trans rfl; have hcz47_1 : w46.cell? ⟨gb162, 1, none⟩ = some (.int .i64 0) := (blk_cell BK162.out 1).trans rfl; have hcz47_2 : w46.cell? ⟨gb162, 2, none⟩ = some (.int .i64 0) := (blk_cell BK162.out 2).trans rfl; have hcz47_3 : w46.cell? ⟨gb162, 3, none⟩ = some (.int .i64 0) := (blk_cell BK162.out 3).trans rfl; have hcz47_4 : w46.cell? ⟨gb162, 4, none⟩ = some (.int .i64 0) := (blk_cell BK162.out 4).trans rfl; have hcz47_5 : w46.cell? ⟨gb162, 5, none⟩ = some (.int .i64 0) := (blk_cell BK162.out 5).trans rfl; have hcz47_6 : w46.cell? ⟨gb162, 6, none⟩ = some (.int .i64 0) := (blk_cell BK162.out 6).trans rfl; have hcz47_7 : w46.cell? ⟨gb162, 7, none⟩ = some (.int .i64 0) := (blk_cell BK162.out 7).trans rfl; have hcz47_8 : w46.cell? ⟨gb162, 8, none⟩ = some (.int .i64 0) := (blk_cell BK162.out 8).trans rfl; have hfz47_0 := blk_frozen BK162.out 0; have hfz47_1 := blk_frozen BK162.out 1; have hfz47_2 := blk_frozen BK162.out 2; have hfz47_3 := blk_frozen BK162.out 3; have hfz47_4 := blk_frozen BK162.out 4; have hfz47_5 := blk_frozen BK162.out 5; have hfz47_6 := blk_frozen BK162.out 6; have hfz47_7 := blk_frozen BK162.out 7; have hfz47_8 := blk_frozen BK162.out 8))
              refine bodyPost_ret (results_ct rfl _ _ gb162 26 #[.string (⟨#[]⟩ : ByteArray), .int .i64 0, .int .i64 0, .int .i64 0, .int .i64 0, .int .i64 0, .int .i64 0, .int .i64 0, .int .i64 0] (0, 0) _ rfl (by (with_reducible repeat first | apply bN | apply bD | apply bA); refine blk_put (cs := #[.string (⟨#[]⟩ : ByteArray), .int .i64 0, .int .i64 0, .int .i64 0, .int .i64 0, .int .i64 0, .int .i64 0, .int .i64 0, .int .i64 0]) ?_ 8 _ rfl; (with_reducible repeat first | apply bN | apply bD | apply bA); refine blk_put (cs := #[.string (⟨#[]⟩ : ByteArray), .int .i64 0, .int .i64 0, .int .i64 0, .int .i64 0, .int .i64 0, .int .i64 0, .int .i64 0, .int .i64 0]) ?_ 7 _ rfl; (with_reducible repeat first | apply bN | apply bD | apply bA); refine blk_put (cs := #[.string (⟨#[]⟩ : ByteArray), .int .i64 0, .int .i64 0, .int .i64 0, .int .i64 0, .int .i64 0, .int .i64 0, .int .i64 0, .int .i64 0]) ?_ 6 _ rfl; (with_reducible repeat first | apply bN | apply bD | apply bA); refine blk_put (cs := #[.string (⟨#[]⟩ : ByteArray), .int .i64 0, .int .i64 0, .int .i64 0, .int .i64 0, .int .i64 0, .int .i64 0, .int .i64 0, .int .i64 0]) ?_ 5 _ rfl; (with_reducible repeat first | apply bN | apply bD | apply bA); refine blk_put (cs := #[.string (⟨#[]⟩ : ByteArray), .int .i64 0, .int .i64 0, .int .i64 0, .int .i64 0, .int .i64 0, .int .i64 0, .int .i64 0, .int .i64 0]) ?_ 4 _ rfl; (with_reducible repeat first | apply bN | apply bD | apply bA); refine blk_put (cs := #[.string (⟨#[]⟩ : ByteArray), .int .i64 0, .int .i64 0, .int .i64 0, .int .i64 0, .int .i64 0, .int .i64 0, .int .i64 0, .int .i64 0]) ?_ 3 _ rfl; (with_reducible repeat first | apply bN | apply bD | apply bA); refine blk_put (cs := #[.string (⟨#[]⟩ : ByteArray), .int .i64 0, .int .i64 0, .int .i64 0, .int .i64 0, .int .i64 0, .int .i64 0, .int .i64 0, .int .i64 0]) ?_ 2 _ rfl; (with_reducible repeat first | apply bN | apply bD | apply bA); refine blk_put (cs := #[.string (⟨#[]⟩ : ByteArray), .int .i64 0, .int .i64 0, .int .i64 0, .int .i64 0, .int .i64 0, .int .i64 0, .int .i64 0, .int .i64 0]) ?_ 1 _ rfl; (with_reducible repeat first | apply bN | apply bD | apply bA); refine blk_put (cs := #[.string (⟨#[]⟩ : ByteArray), .int .i64 0, .int .i64 0, .int .i64 0, .int .i64 0, .int .i64 0, .int .i64 0, .int .i64 0, .int .i64 0]) ?_ 0 _ rfl; (with_reducible repeat first | apply bN | apply bD | apply bA); exact BK162.out) Try.underlying26 rfl (by kernel_rfl)) rfl ?_
              exact ⟨by first | rfl | (simp [errW_none, errW_some] <;> rfl) | (simp [*, errW_none, errW_some] <;> rfl), by repeat (first | (with_reducible first | exact HB.out | apply lA | apply lN | apply lD | refine below_set ?_ GE162.out | refine below_set ?_ GE180.out) | exact HB.out)⟩
            ·
             rw [if_neg c12] at H
             exact absurd H (by simp)
           ·
            rw [if_neg c11] at H
            exact absurd H (by simp)
          ·
           rw [if_neg c10] at H
           exact absurd H (by simp)
         ·
          rw [if_neg c9] at H
          exact absurd H (by simp)
        ·
         rw [if_neg c8] at H
         exact absurd H (by simp)
       ·
        rw [if_neg c7] at H
        exact absurd H (by simp)
      ·
       rw [if_neg c6] at H
       exact absurd H (by simp)
     ·
      rw [if_neg c5] at H
      exact absurd H (by simp)
    ·
     rw [if_neg c4] at H
     exact absurd H (by simp)
   ·
    replace c6 := Bool.eq_false_iff.mpr c6
    subst c6
    have H1 : (some ((⟨#[]⟩ : ByteArray), 0, 0, 0, 0, 0, 0, 0, 0, 6)) = some (r1, r2, r3, r4, r5, r6, r7, r8, r9, r10) := by rw [if_neg (show ¬ (false = true) by decide)] at H; exact H
    clear H
    have H := H1
    clear H1
    simp only [Option.some.injEq, Prod.mk.injEq] at H
    obtain ⟨rfl, rfl, rfl, rfl, rfl, rfl, rfl, rfl, rfl, rfl⟩ := H
    go_enter Try.func25, Try.ntmps25
    go_wp2_with (first | ((with_reducible refine gate_dst (N := 2) rfl ?_); refine box_event ?hg (N := 2) ?hd (cs := #[.string (⟨#[]⟩ : ByteArray), .int .i64 0, .int .i64 0, .int .i64 0, .int .i64 0, .int .i64 0, .int .i64 0, .int .i64 0, .int .i64 0]) (t := 26) ?hr ?_; (case hd => rfl); (case hg => rfl); (case hr => first | (go_simp; done) | (go_simp; rfl)); intro gb162 hg w13 hbox hb; have n0_ := Aside0.mk (below_step (by repeat (first | (with_reducible first | exact HB.out | apply lA | apply lN | apply lD) | exact HB.out)) hb); have n1_ := Aside0.mk (hbox); have n2_ := Aside0.mk ((by rw [hg]; exact (below_size (by repeat (first | (with_reducible first | exact HB.out | apply lA | apply lN | apply lD) | exact HB.out))) : w.heap.size ≤ gb162)); have n3_ := Aside0.mk ((by rw [hg]; exact (below_size (by repeat (first | (with_reducible first | exact HB.out | apply lA | apply lN | apply lD) | exact HB.out))) : w.heap.size ≤ gb162)); clear HB; have HB := n0_; have BK162 := n1_; have GW162 := n2_; have GE162 := n3_; clear n0_ n1_ n2_ n3_; clear hb hbox hg) | ((with_reducible refine gate_callee (f := 72) rfl ?_); refine goesL_ (some 9) rfl rfl Try.func72 (by kernel_rfl) rfl #[.string a0, .int .u8 47] rfl (by (try simp only [List.map_toArray, List.map_cons, List.map_nil]); first | done | rfl | (go_simp; done) | simp) ?_; (with_reducible refine (spec_l01Split.calls k a0 47 t163 _ A2.out).mono ?_); rintro e w14 ⟨v164, rfl, ho0, hb⟩; refine ⟨_, rfl, ?_⟩; have n0_ := Aside0.mk (Kd.R_lower ho0 (below_size (by repeat (first | (with_reducible first | exact HB.out | apply lA | apply lN | apply lD | refine below_set ?_ GE162.out) | exact HB.out)))); have n1_ := Aside0.mk (blk_below (g := gb162) (o := .cells #[.string (⟨#[]⟩ : ByteArray), .int .i64 0, .int .i64 0, .int .i64 0, .int .i64 0, .int .i64 0, .int .i64 0, .int .i64 0, .int .i64 0] 26 (0, 0)) (by (with_reducible repeat first | apply bN | apply bD | apply bA); exact BK162.out) hb); have n2_ := Aside0.mk (below_step (by repeat (first | (with_reducible first | exact HB.out | apply lA | apply lN | apply lD | refine below_set ?_ GE162.out) | exact HB.out)) hb); clear BK162; clear HB; have HO165 := n0_; have BK162 := n1_; have HB := n2_; clear n0_ n1_ n2_; (try clear hb); (try clear hb2); (try clear hk); (try clear hi); (try clear ho0); obtain ⟨Ao15, co15, eo15⟩ := Kd.R_slice HO165.out; subst eo15; have q16 : (1 : Int) ≤ ((t163.length : Int) : Int) := of_decide_eq_true (by with_reducible assumption); obtain ⟨i016, hi016, _, hsz16, _⟩ := info_parts info9; have hroom16 : t163.length ≤ co15 := (Kd.R_reads' HO165.out).2.1; have hC16 : Kd.C Kd.string _ Ao15 t163.length t163 := (Kd.R_reads' HO165.out).2.2; have hcut16 := cut_from (P := Try.prog) 82 9 .i64 Try.underlying82 hi016 1 hsz16 Ao15 t163.length co15 1 (by omega) q16; have hr16 := Kd.C_drop (m := (1 : Int).toNat) (c := co15) hC16 (by omega) hroom16; obtain ⟨A16, hA16⟩ : ∃ A1, A1 = (if co15 = (1 : Int).toNat then Ao15 else (Ao15 : Option Addr).map (·.add ((1 : Int).toNat * 1))) := ⟨_, rfl⟩; obtain ⟨c16, hc16⟩ : ∃ c1, c1 = co15 - (1 : Int).toNat := ⟨_, rfl⟩; have hy16 : y166.length = t163.length - (1 : Int).toNat := (by rw [Ny166.out, List.length_drop] <;> omega); rw [show (t163).drop (1 : Int).toNat = y166 from Ny166.out.symm] at hr16; replace hr16 : Kd.C Kd.string _ A16 y166.length y166 := (by rw [hA16]; exact hr16); rw [← hy16, ← hA16, ← hc16] at hcut16; have HR169 := Aside0.mk hr16; have HC169 := Aside0.mk (show y166.length ≤ c16 from by rw [hy16, hc16]; exact Nat.sub_le_sub_right hroom16 _); clear hr16 hC16 hroom16 hi016 hsz16 hc16; have KY16 := Aside0.mk hy16; have KA16 := Aside0.mk hA16; clear hy16 hA16; have KL16 := Aside0.mk (show 1 ≤ t163.length from by omega); replace q16 := eq_true q16) | ((with_reducible refine gate_callee (f := 73) rfl ?_); refine goesL_ (some 17) rfl rfl Try.func73 (by kernel_rfl) rfl #[.slice A16 y166.length c16] rfl (by (try simp only [List.map_toArray, List.map_cons, List.map_nil]); first | done | rfl | (go_simp; done) | simp) ?_; (with_reducible refine (spec_l01Numbers.calls k _ _ y166 t170 false _ ?side1 ?side2 A5.out).mono ?_); (case side1 => repeat (first | exact (by repeat (first | (with_reducible exact HR169.out) | (with_reducible first | apply cA | apply cN | apply cD) | exact HR169.out)) | (with_reducible first | apply cA | apply cN | apply cD))); (case side2 => exact HC169.out); rintro e w17 ⟨v172, rfl, ho0, hb⟩; refine ⟨_, rfl, ?_⟩; have n0_ := Aside0.mk (Kd.R_below (by (with_reducible repeat (first | apply rA | apply rN | apply rD)); exact HO165.out) hb); have n1_ := Aside0.mk (Kd.R_lower ho0 (below_size (by repeat (first | (with_reducible first | exact HB.out | apply lA | apply lN | apply lD | refine below_set ?_ GE162.out) | exact HB.out)))); have n2_ := Aside0.mk (blk_below (g := gb162) (o := .cells #[.string (⟨#[]⟩ : ByteArray), .int .i64 0, .int .i64 0, .int .i64 0, .int .i64 0, .int .i64 0, .int .i64 0, .int .i64 0, .int .i64 0] 26 (0, 0)) (by (with_reducible repeat first | apply bN | apply bD | apply bA); exact BK162.out) hb); have n3_ := Aside0.mk (Kd.C_below (by repeat (first | (with_reducible exact HR169.out) | (with_reducible first | apply cA | apply cN | apply cD) | exact HR169.out)) hb); have n4_ := Aside0.mk (below_step (by repeat (first | (with_reducible first | exact HB.out | apply lA | apply lN | apply lD | refine below_set ?_ GE162.out) | exact HB.out)) hb); clear HO165; clear BK162; clear HR169; clear HB; have HO165 := n0_; have HO173 := n1_; have BK162 := n2_; have HR169 := n3_; have HB := n4_; clear n0_ n1_ n2_ n3_ n4_; (try clear hb); (try clear hb2); (try clear hk); (try clear hi); (try clear ho0); have hcz18_0 : w17.cell? ⟨gb162, 0, none⟩ = some (.string (⟨#[]⟩ : ByteArray)) := (blk_cell BK162.out 0).trans rfl; have hcz18_1 : w17.cell? ⟨gb162, 1, none⟩ = some (.int .i64 0) := (blk_cell BK162.out 1).trans rfl; have hcz18_2 : w17.cell? ⟨gb162, 2, none⟩ = some (.int .i64 0) := (blk_cell BK162.out 2).trans rfl; have hcz18_3 : w17.cell? ⟨gb162, 3, none⟩ = some (.int .i64 0) := (blk_cell BK162.out 3).trans rfl; have hcz18_4 : w17.cell? ⟨gb162, 4, none⟩ = some (.int .i64 0) := (blk_cell BK162.out 4).trans rfl; have hcz18_5 : w17.cell? ⟨gb162, 5, none⟩ = some (.int .i64 0) := (blk_cell BK162.out 5).trans rfl; have hcz18_6 : w17.cell? ⟨gb162, 6, none⟩ = some (.int .i64 0) := (blk_cell BK162.out 6).trans rfl; have hcz18_7 : w17.cell? ⟨gb162, 7, none⟩ = some (.int .i64 0) := (blk_cell BK162.out 7).trans rfl; have hcz18_8 : w17.cell? ⟨gb162, 8, none⟩ = some (.int .i64 0) := (blk_cell BK162.out 8).trans rfl; have hfz18_0 := blk_frozen BK162.out 0; have hfz18_1 := blk_frozen BK162.out 1; have hfz18_2 := blk_frozen BK162.out 2; have hfz18_3 := blk_frozen BK162.out 3; have hfz18_4 := blk_frozen BK162.out 4; have hfz18_5 := blk_frozen BK162.out 5; have hfz18_6 := blk_frozen BK162.out 6; have hfz18_7 := blk_frozen BK162.out 7; have hfz18_8 := blk_frozen BK162.out 8))
    refine bodyPost_ret (results_ct rfl _ _ gb162 26 #[.string (⟨#[]⟩ : ByteArray), .int .i64 0, .int .i64 0, .int .i64 0, .int .i64 0, .int .i64 0, .int .i64 0, .int .i64 0, .int .i64 0] (0, 0) _ rfl (by (with_reducible repeat first | apply bN | apply bD | apply bA); refine blk_put (cs := #[.string (⟨#[]⟩ : ByteArray), .int .i64 0, .int .i64 0, .int .i64 0, .int .i64 0, .int .i64 0, .int .i64 0, .int .i64 0, .int .i64 0]) ?_ 8 _ rfl; (with_reducible repeat first | apply bN | apply bD | apply bA); refine blk_put (cs := #[.string (⟨#[]⟩ : ByteArray), .int .i64 0, .int .i64 0, .int .i64 0, .int .i64 0, .int .i64 0, .int .i64 0, .int .i64 0, .int .i64 0]) ?_ 7 _ rfl; (with_reducible repeat first | apply bN | apply bD | apply bA); refine blk_put (cs := #[.string (⟨#[]⟩ : ByteArray), .int .i64 0, .int .i64 0, .int .i64 0, .int .i64 0, .int .i64 0, .int .i64 0, .int .i64 0, .int .i64 0]) ?_ 6 _ rfl; (with_reducible repeat first | apply bN | apply bD | apply bA); refine blk_put (cs := #[.string (⟨#[]⟩ : ByteArray), .int .i64 0, .int .i64 0, .int .i64 0, .int .i64 0, .int .i64 0, .int .i64 0, .int .i64 0, .int .i64 0]) ?_ 5 _ rfl; (with_reducible repeat first | apply bN | apply bD | apply bA); refine blk_put (cs := #[.string (⟨#[]⟩ : ByteArray), .int .i64 0, .int .i64 0, .int .i64 0, .int .i64 0, .int .i64 0, .int .i64 0, .int .i64 0, .int .i64 0]) ?_ 4 _ rfl; (with_reducible repeat first | apply bN | apply bD | apply bA); refine blk_put (cs := #[.string (⟨#[]⟩ : ByteArray), .int .i64 0, .int .i64 0, .int .i64 0, .int .i64 0, .int .i64 0, .int .i64 0, .int .i64 0, .int .i64 0]) ?_ 3 _ rfl; (with_reducible repeat first | apply bN | apply bD | apply bA); refine blk_put (cs := #[.string (⟨#[]⟩ : ByteArray), .int .i64 0, .int .i64 0, .int .i64 0, .int .i64 0, .int .i64 0, .int .i64 0, .int .i64 0, .int .i64 0]) ?_ 2 _ rfl; (with_reducible repeat first | apply bN | apply bD | apply bA); refine blk_put (cs := #[.string (⟨#[]⟩ : ByteArray), .int .i64 0, .int .i64 0, .int .i64 0, .int .i64 0, .int .i64 0, .int .i64 0, .int .i64 0, .int .i64 0]) ?_ 1 _ rfl; (with_reducible repeat first | apply bN | apply bD | apply bA); refine blk_put (cs := #[.string (⟨#[]⟩ : ByteArray), .int .i64 0, .int .i64 0, .int .i64 0, .int .i64 0, .int .i64 0, .int .i64 0, .int .i64 0, .int .i64 0]) ?_ 0 _ rfl; (with_reducible repeat first | apply bN | apply bD | apply bA); exact BK162.out) Try.underlying26 rfl (by kernel_rfl)) rfl ?_
    exact ⟨by first | rfl | (simp [errW_none, errW_some] <;> rfl) | (simp [*, errW_none, errW_some] <;> rfl), by repeat (first | (with_reducible first | exact HB.out | apply lA | apply lN | apply lD | refine below_set ?_ GE162.out) | exact HB.out)⟩
  ·
   rw [if_neg c4] at H
   exact absurd H (by simp)
 ·
  rw [if_neg c3] at H
  have c3b0 : ((t163.length : Int) == 9) = false := beq_eq_false_iff_ne.mpr c3
  have c3b1 : ((t163.length : Int) != 9) = true := bne_iff_ne.mpr c3
  simp only [Option.some.injEq, Prod.mk.injEq] at H
  obtain ⟨rfl, rfl, rfl, rfl, rfl, rfl, rfl, rfl, rfl, rfl⟩ := H
  go_enter Try.func25, Try.ntmps25
  go_wp2_with (first | ((with_reducible refine gate_dst (N := 2) rfl ?_); refine box_event ?hg (N := 2) ?hd (cs := #[.string (⟨#[]⟩ : ByteArray), .int .i64 0, .int .i64 0, .int .i64 0, .int .i64 0, .int .i64 0, .int .i64 0, .int .i64 0, .int .i64 0]) (t := 26) ?hr ?_; (case hd => rfl); (case hg => rfl); (case hr => first | (go_simp; done) | (go_simp; rfl)); intro gb162 hg w19 hbox hb; have n0_ := Aside0.mk (below_step (by repeat (first | (with_reducible first | exact HB.out | apply lA | apply lN | apply lD) | exact HB.out)) hb); have n1_ := Aside0.mk (hbox); have n2_ := Aside0.mk ((by rw [hg]; exact (below_size (by repeat (first | (with_reducible first | exact HB.out | apply lA | apply lN | apply lD) | exact HB.out))) : w.heap.size ≤ gb162)); have n3_ := Aside0.mk ((by rw [hg]; exact (below_size (by repeat (first | (with_reducible first | exact HB.out | apply lA | apply lN | apply lD) | exact HB.out))) : w.heap.size ≤ gb162)); clear HB; have HB := n0_; have BK162 := n1_; have GW162 := n2_; have GE162 := n3_; clear n0_ n1_ n2_ n3_; clear hb hbox hg) | ((with_reducible refine gate_callee (f := 72) rfl ?_); refine goesL_ (some 9) rfl rfl Try.func72 (by kernel_rfl) rfl #[.string a0, .int .u8 47] rfl (by (try simp only [List.map_toArray, List.map_cons, List.map_nil]); first | done | rfl | (go_simp; done) | simp) ?_; (with_reducible refine (spec_l01Split.calls k a0 47 t163 _ A2.out).mono ?_); rintro e w20 ⟨v164, rfl, ho0, hb⟩; refine ⟨_, rfl, ?_⟩; have n0_ := Aside0.mk (Kd.R_lower ho0 (below_size (by repeat (first | (with_reducible first | exact HB.out | apply lA | apply lN | apply lD | refine below_set ?_ GE162.out) | exact HB.out)))); have n1_ := Aside0.mk (blk_below (g := gb162) (o := .cells #[.string (⟨#[]⟩ : ByteArray), .int .i64 0, .int .i64 0, .int .i64 0, .int .i64 0, .int .i64 0, .int .i64 0, .int .i64 0, .int .i64 0] 26 (0, 0)) (by (with_reducible repeat first | apply bN | apply bD | apply bA); exact BK162.out) hb); have n2_ := Aside0.mk (below_step (by repeat (first | (with_reducible first | exact HB.out | apply lA | apply lN | apply lD | refine below_set ?_ GE162.out) | exact HB.out)) hb); clear BK162; clear HB; have HO165 := n0_; have BK162 := n1_; have HB := n2_; clear n0_ n1_ n2_; (try clear hb); (try clear hb2); (try clear hk); (try clear hi); (try clear ho0); obtain ⟨Ao21, co21, eo21⟩ := Kd.R_slice HO165.out; subst eo21; have hcz22_0 : w20.cell? ⟨gb162, 0, none⟩ = some (.string (⟨#[]⟩ : ByteArray)) := (blk_cell BK162.out 0).trans rfl; have hcz22_1 : w20.cell? ⟨gb162, 1, none⟩ = some (.int .i64 0) := (blk_cell BK162.out 1).trans rfl; have hcz22_2 : w20.cell? ⟨gb162, 2, none⟩ = some (.int .i64 0) := (blk_cell BK162.out 2).trans rfl; have hcz22_3 : w20.cell? ⟨gb162, 3, none⟩ = some (.int .i64 0) := (blk_cell BK162.out 3).trans rfl; have hcz22_4 : w20.cell? ⟨gb162, 4, none⟩ = some (.int .i64 0) := (blk_cell BK162.out 4).trans rfl; have hcz22_5 : w20.cell? ⟨gb162, 5, none⟩ = some (.int .i64 0) := (blk_cell BK162.out 5).trans rfl; have hcz22_6 : w20.cell? ⟨gb162, 6, none⟩ = some (.int .i64 0) := (blk_cell BK162.out 6).trans rfl; have hcz22_7 : w20.cell? ⟨gb162, 7, none⟩ = some (.int .i64 0) := (blk_cell BK162.out 7).trans rfl; have hcz22_8 : w20.cell? ⟨gb162, 8, none⟩ = some (.int .i64 0) := (blk_cell BK162.out 8).trans rfl; have hfz22_0 := blk_frozen BK162.out 0; have hfz22_1 := blk_frozen BK162.out 1; have hfz22_2 := blk_frozen BK162.out 2; have hfz22_3 := blk_frozen BK162.out 3; have hfz22_4 := blk_frozen BK162.out 4; have hfz22_5 := blk_frozen BK162.out 5; have hfz22_6 := blk_frozen BK162.out 6; have hfz22_7 := blk_frozen BK162.out 7; have hfz22_8 := blk_frozen BK162.out 8))
  refine bodyPost_ret (results_ct rfl _ _ gb162 26 #[.string (⟨#[]⟩ : ByteArray), .int .i64 0, .int .i64 0, .int .i64 0, .int .i64 0, .int .i64 0, .int .i64 0, .int .i64 0, .int .i64 0] (0, 0) _ rfl (by (with_reducible repeat first | apply bN | apply bD | apply bA); refine blk_put (cs := #[.string (⟨#[]⟩ : ByteArray), .int .i64 0, .int .i64 0, .int .i64 0, .int .i64 0, .int .i64 0, .int .i64 0, .int .i64 0, .int .i64 0]) ?_ 8 _ rfl; (with_reducible repeat first | apply bN | apply bD | apply bA); refine blk_put (cs := #[.string (⟨#[]⟩ : ByteArray), .int .i64 0, .int .i64 0, .int .i64 0, .int .i64 0, .int .i64 0, .int .i64 0, .int .i64 0, .int .i64 0]) ?_ 7 _ rfl; (with_reducible repeat first | apply bN | apply bD | apply bA); refine blk_put (cs := #[.string (⟨#[]⟩ : ByteArray), .int .i64 0, .int .i64 0, .int .i64 0, .int .i64 0, .int .i64 0, .int .i64 0, .int .i64 0, .int .i64 0]) ?_ 6 _ rfl; (with_reducible repeat first | apply bN | apply bD | apply bA); refine blk_put (cs := #[.string (⟨#[]⟩ : ByteArray), .int .i64 0, .int .i64 0, .int .i64 0, .int .i64 0, .int .i64 0, .int .i64 0, .int .i64 0, .int .i64 0]) ?_ 5 _ rfl; (with_reducible repeat first | apply bN | apply bD | apply bA); refine blk_put (cs := #[.string (⟨#[]⟩ : ByteArray), .int .i64 0, .int .i64 0, .int .i64 0, .int .i64 0, .int .i64 0, .int .i64 0, .int .i64 0, .int .i64 0]) ?_ 4 _ rfl; (with_reducible repeat first | apply bN | apply bD | apply bA); refine blk_put (cs := #[.string (⟨#[]⟩ : ByteArray), .int .i64 0, .int .i64 0, .int .i64 0, .int .i64 0, .int .i64 0, .int .i64 0, .int .i64 0, .int .i64 0]) ?_ 3 _ rfl; (with_reducible repeat first | apply bN | apply bD | apply bA); refine blk_put (cs := #[.string (⟨#[]⟩ : ByteArray), .int .i64 0, .int .i64 0, .int .i64 0, .int .i64 0, .int .i64 0, .int .i64 0, .int .i64 0, .int .i64 0]) ?_ 2 _ rfl; (with_reducible repeat first | apply bN | apply bD | apply bA); refine blk_put (cs := #[.string (⟨#[]⟩ : ByteArray), .int .i64 0, .int .i64 0, .int .i64 0, .int .i64 0, .int .i64 0, .int .i64 0, .int .i64 0, .int .i64 0]) ?_ 1 _ rfl; (with_reducible repeat first | apply bN | apply bD | apply bA); refine blk_put (cs := #[.string (⟨#[]⟩ : ByteArray), .int .i64 0, .int .i64 0, .int .i64 0, .int .i64 0, .int .i64 0, .int .i64 0, .int .i64 0, .int .i64 0]) ?_ 0 _ rfl; (with_reducible repeat first | apply bN | apply bD | apply bA); exact BK162.out) Try.underlying26 rfl (by kernel_rfl)) rfl ?_
  exact ⟨by first | rfl | (simp [errW_none, errW_some] <;> rfl) | (simp [*, errW_none, errW_some] <;> rfl), by repeat (first | (with_reducible first | exact HB.out | apply lA | apply lN | apply lD | refine below_set ?_ GE162.out) | exact HB.out)⟩

end Go.Proofs.Ytmepklccbogibaa.QFnArticleTexts
