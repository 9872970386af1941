/- A side speed that is found leads into the range, and a smaller one does not; no condition. -/
import Derived.Test.YtkedlfedjbgbiaaMa
import Derived.Test.YtkedlfedjbgbiaaQFnLandingsx
namespace Go.Proofs.Ytkedlfedjbgbiaa.PureFnLandings
open Go.RowKit Go.Proofs.Ytkedlfedjbgbiaa.QFnLandings Go.Proofs.YtkedlfedjbgbiaaW.PrintWords Go.Proofs.YtkedlfedjbgbiaaW.PrintLast Go.Proofs.Ytkedlfedjbgbiaa.Ma
set_option linter.unusedVariables false
set_option linter.unusedSimpArgs false

/-! ### numbers that follow from a code -/
def Code (c : List Int) : Prop := (∀ x ∈ c, 0 ≤ x ∧ x ≤ 255) ∧ c.length ≤ 5000
def Src (c : List Int) (a s : Int) : Prop := Code c ∧ (0 ≤ a ∧ a ≤ c.length) ∧ 0 ≤ s ∧ s < 2147483647
theorem rd_code {c : List Int} (h : Code c) {i : Int} (h0 : 0 ≤ i) (h1 : i < c.length) : 0 ≤ rd c i ∧ rd c i ≤ 255 := by
  unfold rd
  have hi : i.toNat < c.length := by omega
  rw [List.getD_eq_getElem?_getD, List.getElem?_eq_getElem hi]
  exact h.1 _ (List.getElem_mem hi)
theorem tmod_nn {a b : Int} (ha : 0 ≤ a) : Int.tmod a b = a % b := Int.tmod_eq_emod_of_nonneg ha
theorem tmod_in {a b : Int} (ha : 0 ≤ a) (hb : 0 < b) : 0 ≤ Int.tmod a b ∧ Int.tmod a b < b := by
  rw [tmod_nn ha]
  exact ⟨Int.emod_nonneg a (by omega), Int.emod_lt_of_pos a hb⟩
theorem l01Next_some {c : List Int} {a s n : Int} (h : Src c a s) (hn : n ≤ 4611686018427387904) : ∃ x a' s', spec_l01Next.f c a s n = some (x, a', s') ∧ Src c a' s' ∧ 0 ≤ x ∧ (1 ≤ n → x < n) ∧ (n ≤ 1 → x = 0) := by
  obtain ⟨hc, ⟨a0, a1⟩, s0, s1⟩ := h
  have hl := hc.2
  unfold spec_l01Next.f
  by_cases g : n ≤ 1
  · rw [if_pos g]
    exact ⟨0, a, s, rfl, ⟨hc, ⟨a0, a1⟩, s0, s1⟩, by omega, by omega, by omega⟩
  · rw [if_neg g]
    have e1 : wrap64 ((wrap64 (s * 48271)) + 29) = s * 48271 + 29 := by
      rw [w64 (n := s * 48271) (by omega) (by omega), w64 (by omega) (by omega)]
    have e2 := tmod_in (a := s * 48271 + 29) (b := 2147483647) (by omega) (by omega)
    rw [e1]
    generalize Int.tmod (s * 48271 + 29) 2147483647 = s' at *
    have e3 : wrap64 (Int.tdiv s' 31) = s' / 31 := by rw [Int.tdiv_eq_ediv_of_nonneg (by omega), w64 (by omega) (by omega)]
    rw [e3]
    by_cases g1 : a < (c.length : Int)
    · have hr := rd_code hc a0 g1
      rw [if_pos g1, if_pos a0, w64 (n := a + 1) (by omega) (by omega), w64 (n := a + 1 - 1) (by omega) (by omega), show a + 1 - 1 = a by omega, w64 (n := rd c a) (by omega) (by omega), w64 (n := s' / 31 + rd c a) (by omega) (by omega)]
      have t1 := tmod_in (a := rd c a) (b := n) (by omega) (by omega)
      have t2 := tmod_in (a := s' / 31 + rd c a) (b := n) (by omega) (by omega)
      have fin : Src c (a + 1) s' := ⟨hc, ⟨by omega, by omega⟩, e2⟩
      by_cases g2 : n ≤ 256
      · rw [if_pos g2]
        by_cases g3 : Int.tmod (a + 1) 2 = 0
        · rw [if_pos g3, if_pos a0, if_pos g1, if_neg (by omega)]
          exact ⟨_, _, _, rfl, fin, t1.1, fun _ => t1.2, by omega⟩
        · rw [if_neg g3, if_neg (by omega)]
          exact ⟨_, _, _, rfl, fin, t2.1, fun _ => t2.2, by omega⟩
      · rw [if_neg g2, if_neg (by omega)]
        exact ⟨_, _, _, rfl, fin, t2.1, fun _ => t2.2, by omega⟩
    · have t2 := tmod_in (a := s' / 31) (b := n) (by omega) (by omega)
      rw [if_neg g1, if_neg (by omega)]
      exact ⟨_, _, _, rfl, ⟨hc, ⟨a0, a1⟩, e2⟩, t2.1, fun _ => t2.2, by omega⟩
theorem l01Pick_some {c : List Int} {a s : Int} (h : Src c a s) {l : List Int} (hl : 1 ≤ l.length) (hl' : l.length ≤ 1000) : ∃ x a' s', spec_l01Pick.f c a s l = some (x, a', s') ∧ Src c a' s' ∧ x ∈ l := by
  obtain ⟨x, a', s', e, h', x0, x1, _⟩ := l01Next_some h (n := (l.length : Int)) (by omega)
  have x2 := x1 (by omega)
  unfold spec_l01Pick.f
  rw [e, Option.bind_some, if_pos x0, if_pos x2]
  refine ⟨_, _, _, rfl, h', ?_⟩
  unfold rd
  have hi : x.toNat < l.length := by omega
  rw [List.getD_eq_getElem?_getD, List.getElem?_eq_getElem hi]
  exact List.getElem_mem hi
theorem l01From_l0 {c : List Int} (hc : Code c) : ∀ (d : Nat) (i : Int) (s : Int), 64 - i = d → 0 ≤ i → 0 ≤ s → s < 2147483647 → ∃ s', Ev (fun k => spec_l01From.l0 k c i c 0 s) (c, 0, s') ∧ Src c 0 s' := by
  intro d
  have hl := hc.2
  induction d with
  | zero =>
    intro i s hd h0 s0 s1
    refine ⟨s, Ev.step (fun k => spec_l01From.l0.eq_2 ..) ?_, hc, ⟨by omega, by omega⟩, s0, s1⟩
    by_cases g : i < (c.length : Int)
    · exact ev_pos g (ev_neg (by omega) (Ev.now _))
    · exact ev_neg g (Ev.now _)
  | succ d ih =>
    intro i s hd h0 s0 s1
    by_cases g : i < (c.length : Int)
    · have hr := rd_code hc h0 g
      have e1 : wrap64 ((wrap64 (s * 83)) + (wrap64 (rd c i))) = s * 83 + rd c i := by
        rw [w64 (n := s * 83) (by omega) (by omega), w64 (n := rd c i) (by omega) (by omega), w64 (by omega) (by omega)]
      have e2 := tmod_in (a := s * 83 + rd c i) (b := 2147483647) (by omega) (by omega)
      obtain ⟨s', hs, h⟩ := ih (i + 1) (Int.tmod (s * 83 + rd c i) 2147483647) (by omega) (by omega) e2.1 e2.2
      refine ⟨s', Ev.step (fun k => spec_l01From.l0.eq_2 ..) (ev_pos g (ev_pos (by omega) (ev_pos h0 ?_))), h⟩
      rw [e1, w64 (by omega) (by omega)]
      exact hs
    · exact ⟨s, Ev.step (fun k => spec_l01From.l0.eq_2 ..) (ev_neg g (Ev.now _)), hc, ⟨by omega, by omega⟩, s0, s1⟩
theorem l01From_ev {c : List Int} (hc : Code c) : ∃ s, Ev (fun k => spec_l01From.f k c) (c, 0, s) ∧ Src c 0 s :=
  l01From_l0 hc 64 0 61043 (by omega) (by omega) (by omega) (by omega)
/-! ### dice -/
def Dice (c : List Int) (i h : Int) : Prop := Code c ∧ (0 ≤ i ∧ i ≤ c.length) ∧ 0 ≤ h ∧ h ≤ 18446744073709551615
theorem u64w (n : Int) : 0 ≤ IntKind.u64.wrap n ∧ IntKind.u64.wrap n ≤ 18446744073709551615 := by
  have e : IntKind.u64.wrap n = n % 18446744073709551616 := by rfl
  omega
theorem roll_l0 {c : List Int} (hc : Code c) : ∀ (d : Nat) (i : Int) (h : Int), (c.length : Int) - i = d → 0 ≤ i → 0 ≤ h → h ≤ 18446744073709551615 → ∃ h', Ev (fun k => laws_roll.l0 k c i c 0 h) (c, 0, h') ∧ Dice c 0 h' := by
  intro d
  have hl := hc.2
  induction d with
  | zero =>
    intro i h hd h0 s0 s1
    exact ⟨h, Ev.step (fun k => laws_roll.l0.eq_2 ..) (ev_neg (by omega) (Ev.now _)), hc, ⟨by omega, by omega⟩, s0, s1⟩
  | succ d ih =>
    intro i h hd h0 s0 s1
    have e := u64w ((IntKind.u64.wrap ((IntKind.u64.wrap (h * 1099511628211)) + (IntKind.u64.wrap (rd c i)))) + 3)
    obtain ⟨h', hs, k⟩ := ih (i + 1) (IntKind.u64.wrap ((IntKind.u64.wrap ((IntKind.u64.wrap (h * 1099511628211)) + (IntKind.u64.wrap (rd c i)))) + 3)) (by omega) (by omega) e.1 e.2
    refine ⟨h', Ev.step (fun k => laws_roll.l0.eq_2 ..) (ev_pos (by omega) (ev_pos h0 ?_)), k⟩
    rw [w64 (by omega) (by omega)]
    exact hs
theorem roll_ev {c : List Int} (hc : Code c) (n : Int) : ∃ h, Ev (fun k => laws_roll.f k c n) (c, 0, h) ∧ Dice c 0 h := by
  have e := u64w ((IntKind.u64.wrap (n * 7919)) + (IntKind.u64.wrap ((c.length : Int))))
  exact roll_l0 hc c.length 0 _ (by omega) (by omega) e.1 e.2
theorem below_some {c : List Int} {i h n : Int} (hd : Dice c i h) (hn : 1 ≤ n) : ∃ x i' h', laws_dice_below.f c i h n = some (x, i', h') ∧ Dice c i' h' ∧ 0 ≤ x ∧ x < n := by
  obtain ⟨hc, ⟨i0, i1⟩, h0, h1⟩ := hd
  have hl := hc.2
  unfold laws_dice_below.f
  have e := u64w ((IntKind.u64.wrap (h * 6364136223846793005)) + 1442695040888963407)
  generalize IntKind.u64.wrap ((IntKind.u64.wrap (h * 6364136223846793005)) + 1442695040888963407) = g at *
  have p32 : (2 : Int) ^ 32 = 4294967296 := by decide
  have wr : ∀ z : Int, 0 ≤ z → z < 2 ^ 32 → IntKind.u64.wrap z = z := fun z z0 z1 => by
    have e : IntKind.u64.wrap z = z % 18446744073709551616 := rfl
    omega
  have hg : g / 8589934592 < 2 ^ 32 := by omega
  have m : Go.bits .and .u64 (g / 8589934592) 16777215 = g / 8589934592 % 16777216 := bits_mask .u64 32 (by decide) wr 24 (by decide) (g / 8589934592) (by omega) hg
  rw [m]
  by_cases a : i < (c.length : Int)
  · have hr := rd_code hc i0 a
    have t := tmod_in (a := g / 8589934592 % 16777216 + rd c i) (b := n) (by omega) (by omega)
    rw [if_pos a, if_pos i0, if_neg (by omega), w64 (n := g / 8589934592 % 16777216) (by omega) (by omega), w64 (n := rd c i) (by omega) (by omega), w64 (n := g / 8589934592 % 16777216 + rd c i) (by omega) (by omega), w64 (n := i + 1) (by omega) (by omega)]
    exact ⟨_, _, _, rfl, ⟨hc, ⟨by omega, by omega⟩, e⟩, t.1, t.2⟩
  · have t := tmod_in (a := g / 8589934592 % 16777216) (b := n) (by omega) (by omega)
    rw [if_neg a, if_neg (by omega), w64 (n := g / 8589934592 % 16777216) (by omega) (by omega)]
    exact ⟨_, _, _, rfl, ⟨hc, ⟨i0, i1⟩, e⟩, t.1, t.2⟩
theorem big_false {c : List Int} (h : ¬ (c.length : Int) > 4096) : laws_big.f c = some false := by unfold laws_big.f; simp; omega
theorem big_true {c : List Int} (h : (c.length : Int) > 4096) : laws_big.f c = some true := by unfold laws_big.f; simp; omega
theorem code_of {c : List Int} (h : ∀ x ∈ c, (Lit.int .u8 x).wf = true) (hl : ¬ (c.length : Int) > 4096) : Code c := ⟨fun x hx => bd8 (h x hx), by omega⟩

theorem l04Up_some {c : List Int} {a s : Int} (h : Src c a s) : ∃ x a' s', spec_l04Up.f c a s = some (x, a', s') ∧ Src c a' s' ∧ 0 ≤ x ∧ x ≤ 200001 := by
  obtain ⟨x1, a1, s1, e1, h1, b1, c1, _⟩ := l01Next_some h (n := 100000) (by omega)
  obtain ⟨x2, a2, s2, e2, h2, b2, c2, _⟩ := l01Next_some h1 (n := 100000) (by omega)
  obtain ⟨x3, a3, s3, e3, h3, b3, c3, _⟩ := l01Next_some h2 (n := 100) (by omega)
  obtain ⟨x4, a4, s4, e4, h4, b4, c4, _⟩ := l01Next_some h3 (n := 60000) (by omega)
  obtain ⟨x5, a5, s5, e5, h5, b5, c5, _⟩ := l01Next_some h4 (n := 60000) (by omega)
  obtain ⟨x6, a6, s6, e6, h6, b6⟩ := l01Pick_some h5 (l := [x1, x2, x3, 0, 200000, 200001, x4, x5]) (by simp) (by simp)
  refine ⟨x6, a6, s6, ?_, h6, ?_⟩
  · unfold spec_l04Up.f
    simp only [e1, e2, e3, e4, e5, e6, Option.bind_some]
  · simp only [List.mem_cons, List.not_mem_nil, or_false] at b6
    omega
theorem l04Side_some {c : List Int} {a s : Int} (h : Src c a s) : ∃ x a' s', spec_l04Side.f c a s = some (x, a', s') ∧ Src c a' s' ∧ -50000 ≤ x ∧ x ≤ 50001 := by
  obtain ⟨x1, a1, s1, e1, h1, b1, c1, _⟩ := l01Next_some h (n := 20001) (by omega)
  obtain ⟨x2, a2, s2, e2, h2, b2, c2, _⟩ := l01Next_some h1 (n := 2001) (by omega)
  obtain ⟨x3, a3, s3, e3, h3, b3, c3, _⟩ := l01Next_some h2 (n := 20001) (by omega)
  obtain ⟨x4, a4, s4, e4, h4, b4⟩ := l01Pick_some h3 (l := [50000, (-50000), 50001]) (by simp) (by simp)
  obtain ⟨x5, a5, s5, e5, h5, b5⟩ := l01Pick_some h4 (l := [wrap64 (x1 - 10000), wrap64 (x2 - 1000), 0, wrap64 (x3 - 10000), x4]) (by simp) (by simp)
  refine ⟨x5, a5, s5, ?_, h5, ?_⟩
  · unfold spec_l04Side.f
    simp only [e1, e2, e3, e4, e5, Option.bind_some]
  · rw [w64 (n := x1 - 10000) (by omega) (by omega), w64 (n := x2 - 1000) (by omega) (by omega), w64 (n := x3 - 10000) (by omega) (by omega)] at b5
    simp only [List.mem_cons, List.not_mem_nil, or_false] at b4 b5
    omega
theorem DrawSideFor_ev {c : List Int} (hc : Code c) : ∃ x y z t, Ev (fun k => spec_DrawSideFor.f k c) (x, y, z, t) := by
  obtain ⟨s, e, h⟩ := l01From_ev hc
  obtain ⟨x1, a1, s1, e1, h1, _⟩ := l04Up_some h
  obtain ⟨x2, a2, s2, e2, h2, _⟩ := l04Side_some h1
  obtain ⟨x3, a3, s3, e3, h3, _⟩ := l01Next_some h2 (n := 40001) (by omega)
  obtain ⟨x4, a4, s4, e4, h4, _⟩ := l01Next_some h3 (n := 400001) (by omega)
  obtain ⟨x5, a5, s5, e5, h5, _⟩ := l01Pick_some h4 (l := [wrap64 (x3 - 20000), wrap64 (x4 - 200000), (-1000000), 0]) (by simp) (by simp)
  obtain ⟨x6, a6, s6, e6, h6, _⟩ := l01Next_some h5 (n := 2000) (by omega)
  obtain ⟨x7, a7, s7, e7, h7, _⟩ := l01Next_some h6 (n := 40000) (by omega)
  obtain ⟨x8, a8, s8, e8, h8, _⟩ := l01Pick_some h7 (l := [x6, 0, x7, (-1), 1000000]) (by simp) (by simp)
  exact ⟨_, _, _, _, e.bind (ev_bind0 e1 (ev_bind0 e2 (ev_bind0 e3 (ev_bind0 e4 (ev_bind0 e5 (ev_bind0 e6 (ev_bind0 e7 (ev_bind0 e8 (Ev.now _)))))))))⟩

/-! flights -/
def F (up t : Int) : Int := 2000 * up * t - 9810 * t * t
def ht (up t : Int) : Int := F up t / 2000000
theorem F_diff (up s t : Int) : F up t - F up s = (t - s) * (2000 * up - 9810 * (s + t)) := by unfold F; grind
theorem F_rise {up s t : Int} (hst : s ≤ t) (h : 9810 * (s + t) ≤ 2000 * up) : F up s ≤ F up t := by
  have := F_diff up s t
  have h2 : 0 ≤ (t - s) * (2000 * up - 9810 * (s + t)) := Int.mul_nonneg (by omega) (by omega)
  omega
theorem F_fall {up s t : Int} (hst : s ≤ t) (h : 2000 * up ≤ 9810 * (s + t)) : F up t ≤ F up s := by
  have := F_diff up s t
  have h2 : 0 ≤ (t - s) * (9810 * (s + t) - 2000 * up) := Int.mul_nonneg (by omega) (by omega)
  have h3 : (t - s) * (9810 * (s + t) - 2000 * up) = -((t - s) * (2000 * up - 9810 * (s + t))) := by grind
  omega
theorem ht_mono {up s t : Int} (h : F up s ≤ F up t) : ht up s ≤ ht up t := Int.ediv_le_ediv (by omega) h
def last (up : Int) : Int := 1000 * up / 9810
theorem last_b (up : Int) : 9810 * last up ≤ 1000 * up ∧ 1000 * up < 9810 * (last up + 1) := by unfold last; omega
theorem ht_rise {up s t : Int} (hst : s ≤ t) (h : t ≤ last up) : ht up s ≤ ht up t := by
  have := last_b up
  exact ht_mono (F_rise hst (by omega))
theorem ht_fall {up s t : Int} (hst : s ≤ t) (h : last up + 1 ≤ s) : ht up t ≤ ht up s := by
  have := last_b up
  exact ht_mono (F_fall hst (by omega))
/-- the least from lo on -/
def Least (p : Int → Prop) (lo r : Int) : Prop := lo ≤ r ∧ p r ∧ ∀ s, lo ≤ s → s < r → ¬ p s
theorem least_uniq {p : Int → Prop} {lo a b : Int} (ha : Least p lo a) (hb : Least p lo b) : a = b := by
  obtain ⟨h1, h2, h3⟩ := ha
  obtain ⟨k1, k2, k3⟩ := hb
  rcases Int.lt_trichotomy a b with h | h | h
  · exact absurd h2 (k3 a h1 h)
  · exact h
  · exact absurd k2 (h3 b k1 h)
def top (up : Int) : Int := max (ht up (last up)) (ht up (last up + 1))
/-- nothing is higher than the top -/
theorem top_max {up t : Int} : ht up t ≤ top up := by
  unfold top
  by_cases h : t ≤ last up
  · have := ht_rise h (Int.le_refl _); omega
  · have := ht_fall (up := up) (s := last up + 1) (t := t) (by omega) (by omega); omega
def TopAt (up r : Int) : Prop := Least (fun t => top up ≤ ht up t) 0 r
theorem F_up {u v t : Int} (ht : 0 ≤ t) (h : u ≤ v) : F u t ≤ F v t := by
  have : F v t - F u t = 2000 * ((v - u) * t) := by unfold F; grind
  have := Int.mul_nonneg (show 0 ≤ v - u by omega) ht
  omega
theorem top_up {u v : Int} (hu : 0 ≤ u) (h : u ≤ v) : top u ≤ top v := by
  have h0 : 0 ≤ last u := by unfold last; omega
  have h1 : ht u (last u) ≤ ht v (last u) := Int.ediv_le_ediv (by omega) (F_up h0 h)
  have h2 : ht u (last u + 1) ≤ ht v (last u + 1) := Int.ediv_le_ediv (by omega) (F_up (by omega) h)
  have h4 := top_max (up := v) (t := last u)
  have h5 := top_max (up := v) (t := last u + 1)
  have h3 : top u = max (ht u (last u)) (ht u (last u + 1)) := rfl
  omega
/-- bounds: what the program computes fits in its numbers -/
theorem F_bound {up t : Int} (h0 : 0 ≤ up) (h1 : up ≤ 200001) (t0 : 0 ≤ t) (t1 : t ≤ 70000) : 0 ≤ 2000 * up * t ∧ 2000 * up * t ≤ 28001000000000 ∧ 0 ≤ 9810 * t ∧ 9810 * t ≤ 686700000 ∧ 0 ≤ 9810 * t * t ∧ 9810 * t * t ≤ 48069000000000 := by
  have a := Int.mul_nonneg (show 0 ≤ 2000 * up by omega) t0
  have b := Int.mul_le_mul (show 2000 * up ≤ 400002000 by omega) t1 t0 (by omega)
  have c := Int.mul_nonneg (show 0 ≤ 9810 * t by omega) t0
  have d := Int.mul_le_mul (show 9810 * t ≤ 686700000 by omega) t1 t0 (by omega)
  omega
/-! flight and drift -/
def FlightAt (up r : Int) : Prop := Least (fun t => ht up t ≤ 0) 1 r
theorem ht_end {up : Int} (h0 : 0 ≤ up) (h1 : up ≤ 200000) : ht up 60000 ≤ 0 := by
  unfold ht F; omega
theorem last_le {up : Int} (h0 : 0 ≤ up) (h1 : up ≤ 200000) : 0 ≤ last up ∧ last up ≤ 20387 := by unfold last; omega
/-- where the first millisecond is in the air: all up to the last rise is -/
theorem ht_pos {up s : Int} (h : 0 < ht up 1) (h1 : 1 ≤ s) (h2 : s ≤ last up) : 0 < ht up s := by
  have := ht_rise h1 h2; omega
/-- so the flight is found behind the last rise -/
theorem flight_of_search {up r : Int} (h : 0 < ht up 1) (h0 : 1 ≤ r) (hr : ht up r ≤ 0) (hl : ∀ s, last up + 1 ≤ s → s < r → 0 < ht up s) : FlightAt up r := by
  refine ⟨h0, hr, fun s h1 h2 h3 => ?_⟩
  by_cases hs : s ≤ last up
  · have := ht_pos h h1 hs; omega
  · have := hl s (by omega) h2; omega
theorem flight_of_step {up r : Int} (h : 0 < ht up 1) (h0 : 1 ≤ r) (hr : ht up r ≤ 0) (hl : 0 < ht up (r - 1)) : FlightAt up r := by
  refine flight_of_search h h0 hr (fun s h1 h2 => ?_)
  have := ht_fall (up := up) (s := s) (t := r - 1) (by omega) h1; omega
theorem flight_one {up : Int} (h : ht up 1 ≤ 0) : FlightAt up 1 := ⟨by omega, h, fun s _ _ => by omega⟩
theorem flight_le {up r : Int} (h0 : 0 ≤ up) (h1 : up ≤ 200000) (h : FlightAt up r) : 1 ≤ r ∧ r ≤ 60000 := by
  refine ⟨h.1, ?_⟩
  rcases Int.lt_or_le 60000 r with h2 | h2
  · exact absurd (ht_end h0 h1) (h.2.2 60000 (by omega) h2)
  · exact h2
def drift (side wind t : Int) : Int := (side + wind) * t / 1000
theorem drift_mono {a b wind t : Int} (ht : 0 ≤ t) (h : a ≤ b) : drift a wind t ≤ drift b wind t :=
  Int.ediv_le_ediv (by omega) (Int.mul_le_mul_of_nonneg_right (by omega) ht)
theorem drift_mono_wind {side a b t : Int} (ht : 0 ≤ t) (h : a ≤ b) : drift side a t ≤ drift side b t :=
  Int.ediv_le_ediv (by omega) (Int.mul_le_mul_of_nonneg_right (by omega) ht)
theorem mul_bound {x t : Int} (hx : -100000 ≤ x) (hx' : x ≤ 100000) (h0 : 0 ≤ t) (h1 : t ≤ 60000) : -6000000000 ≤ x * t ∧ x * t ≤ 6000000000 := by
  have a := Int.mul_nonneg (show 0 ≤ x + 100000 by omega) h0
  have b := Int.mul_nonneg (show 0 ≤ 100000 - x by omega) h0
  rw [Int.add_mul] at a
  rw [Int.sub_mul] at b
  omega
def Found (wind t least most s : Int) : Prop := least ≤ drift s wind t ∧ drift s wind t ≤ most
def SideIs (wind t least most r code : Int) : Prop :=
  (code = 0 ∧ -50000 ≤ r ∧ r ≤ 50000 ∧ Found wind t least most r ∧ ∀ s, -50000 ≤ s → s ≤ 50000 → Found wind t least most s → (0 ≤ r ∧ r ≤ s) ∨ (s ≤ r ∧ r ≤ 0)) ∨
  (code = 4 ∧ r = 0 ∧ ∀ s, -50000 ≤ s → s ≤ 50000 → ¬ Found wind t least most s)
theorem side_uniq {wind t least most a c b d : Int} (h : SideIs wind t least most a c) (k : SideIs wind t least most b d) : a = b ∧ c = d := by
  rcases h with ⟨h1, h2, h3, h4, h5⟩ | ⟨h1, h2, h3⟩ <;> rcases k with ⟨k1, k2, k3, k4, k5⟩ | ⟨k1, k2, k3⟩
  · have := h5 b k2 k3 k4
    have := k5 a h2 h3 h4
    omega
  · exact absurd h4 (k3 a h2 h3)
  · exact absurd k4 (h3 b k2 k3)
  · omega

/-! ### division, ranges -/
theorem in_eq (a b c : Int) : spec_l01In.f a b c = some (decide (b ≤ a ∧ a ≤ c)) := by
  unfold spec_l01In.f
  by_cases h : b ≤ a <;> simp [h]
theorem within_eq (a b c : Int) : impl_within.f a b c = some (decide (b ≤ a ∧ a ≤ c)) := by
  unfold impl_within.f
  by_cases h : b ≤ a <;> simp [h]
theorem tdiv_floor {a b : Int} (hb : 0 < b) : (Int.tmod a b < 0 → Int.tdiv a b - 1 = a / b) ∧ (¬ Int.tmod a b < 0 → Int.tdiv a b = a / b) := by
  have h1 := Int.tdiv_eq_ediv (a := a) (b := b)
  have h2 := Int.tmod_eq_emod (a := a) (b := b)
  have h3 := Int.emod_nonneg a (show b ≠ 0 by omega)
  have h4 := Int.emod_lt_of_pos a hb
  by_cases h : 0 ≤ a ∨ b ∣ a
  · rw [if_pos h] at h1 h2
    omega
  · rw [if_neg h] at h1 h2
    rw [Int.sign_eq_one_of_pos hb] at h1
    omega
theorem ediv_small {a b : Int} (hb : 0 < b) (h : -4611686018427387904 ≤ a) (h' : a ≤ 4611686018427387904) : -4611686018427387904 ≤ a / b ∧ a / b ≤ 4611686018427387904 := by
  have h1 : -4611686018427387904 * b ≤ a := by
    have := Int.mul_le_mul_of_nonneg_left (show 1 ≤ b by omega) (show (0 : Int) ≤ 4611686018427387904 by omega); omega
  have h2 : a < (4611686018427387904 + 1) * b := by
    have := Int.mul_le_mul_of_nonneg_left (show 1 ≤ b by omega) (show (0 : Int) ≤ 4611686018427387905 by omega); omega
  have h3 := (Int.le_ediv_iff_mul_le hb).2 h1
  have h4 := (Int.ediv_lt_iff_lt_mul hb).2 h2
  omega
theorem floorDiv_eq {a b : Int} (hb : 0 < b) (h : -4611686018427387904 ≤ a) (h' : a ≤ 4611686018427387904) : impl_floorDiv.f a b = some (a / b) := by
  have h1 := tdiv_floor (a := a) hb
  have h2 := ediv_small hb h h'
  unfold impl_floorDiv.f
  rw [if_neg (by omega)]
  by_cases c : Int.tmod a b < 0
  · have := h1.1 c
    rw [if_pos c, w64 (n := Int.tdiv a b) (by omega) (by omega), w64 (by omega) (by omega), this]
  · have := h1.2 c
    rw [if_neg c, w64 (by omega) (by omega), this]
theorem floor_eq {a b : Int} (hb : 0 < b) (h : -4611686018427387904 ≤ a) (h' : a ≤ 4611686018427387904) : spec_l01Floor.f a b = some (a / b) := by
  have h1 := tdiv_floor (a := a) hb
  have h2 := ediv_small hb h h'
  unfold spec_l01Floor.f
  rw [if_neg (by omega), if_neg (by omega)]
  by_cases c : Int.tmod a b < 0
  · have := h1.1 c
    rw [if_pos c, w64 (n := Int.tdiv a b) (by omega) (by omega), w64 (by omega) (by omega), this]
  · have := h1.2 c
    rw [if_neg c, w64 (by omega) (by omega), this]

theorem height_wrap {up t : Int} (h0 : 0 ≤ up) (h1 : up ≤ 200001) (t0 : 0 ≤ t) (t1 : t ≤ 70000) : wrap64 ((wrap64 ((wrap64 (2000 * up)) * t)) - (wrap64 ((wrap64 (9810 * t)) * t))) = F up t ∧ -4611686018427387904 ≤ F up t ∧ F up t ≤ 4611686018427387904 := by
  have hb := F_bound h0 h1 t0 t1
  have e : F up t = 2000 * up * t - 9810 * t * t := rfl
  rw [w64 (n := 2000 * up) (by omega) (by omega), w64 (n := 9810 * t) (by omega) (by omega), w64 (n := 2000 * up * t) (by omega) (by omega), w64 (n := 9810 * t * t) (by omega) (by omega), w64 (by omega) (by omega)]
  omega
theorem heightAt_eq {up t : Int} (h0 : 0 ≤ up) (h1 : up ≤ 200001) (t0 : 0 ≤ t) (t1 : t ≤ 70000) : impl_heightAt.f up t = some (ht up t) := by
  obtain ⟨a, b, c⟩ := height_wrap h0 h1 t0 t1
  unfold impl_heightAt.f
  rw [a, floorDiv_eq (by omega) b c]; rfl
theorem l04Height_eq {up t : Int} (h0 : 0 ≤ up) (h1 : up ≤ 200001) (t0 : 0 ≤ t) (t1 : t ≤ 70000) : spec_l04Height.f up t = some (ht up t) := by
  obtain ⟨a, b, c⟩ := height_wrap h0 h1 t0 t1
  unfold spec_l04Height.f
  rw [a, floor_eq (by omega) b c]; rfl

/-! ### the top -/
theorem last_wrap {up : Int} (h0 : 0 ≤ up) (h1 : up ≤ 200000) : wrap64 (Int.tdiv (wrap64 (1000 * up)) 9810) = last up := by
  rw [w64 (n := 1000 * up) (by omega) (by omega), Int.tdiv_eq_ediv_of_nonneg (by omega), w64 (by omega) (by omega)]; rfl
theorem half_wrap {a b : Int} (h0 : 0 ≤ a) (h1 : a ≤ 1000000) (h2 : 0 ≤ b) (h3 : b ≤ 1000000) : wrap64 (Int.tdiv (wrap64 (a + b)) 2) = (a + b) / 2 := by
  rw [w64 (n := a + b) (by omega) (by omega), Int.tdiv_eq_ediv_of_nonneg (by omega), w64 (by omega) (by omega)]
/-- The time of the top: the least at which the height is the top. -/
def TopIs (up r : Int) : Prop := TopAt up r ∧ r ≤ last up + 1
theorem spec_l04Top_l0 {up : Int} (h0 : 0 ≤ up) (h1 : up ≤ 200000) : ∀ (d : Nat) (t : Int), t = d → t ≤ last up → (ht up t < top up → t = last up ∧ top up = ht up (last up + 1)) →
    ∃ r, Ev (fun k => spec_l04Top.l0 k up t (top up)) (r, top up) ∧ TopIs up r := by
  intro d
  have hL := last_le h0 h1
  induction d with
  | zero =>
    intro t hd a b
    refine ⟨if ht up t < top up then t + 1 else t, Ev.step (fun k => spec_l04Top.l0.eq_2 ..) (ev_neg (by omega) ?_), ?_⟩
    · refine ev_bind0 (l04Height_eq h0 (by omega) (by omega) (by omega)) ?_
      by_cases g : ht up t < top up
      · refine ev_pos g (ev_ret ?_); rw [if_pos g, w64 (by omega) (by omega)]
      · refine ev_neg g (ev_ret ?_); rw [if_neg g]
    · by_cases g : ht up t < top up
      · obtain ⟨e, f⟩ := b g
        rw [if_pos g]
        refine ⟨⟨by omega, ?_, fun s s0 s1 => ?_⟩, by omega⟩
        · show top up ≤ ht up (t + 1); rw [e]; omega
        · obtain rfl : s = t := by omega
          omega
      · rw [if_neg g]
        exact ⟨⟨by omega, by omega, fun s _ _ => by omega⟩, by omega⟩
  | succ d ih =>
    intro t hd a b
    by_cases c : ht up (t - 1) = top up
    · obtain ⟨r, hr, h⟩ := ih (t - 1) (by omega) (by omega) (fun _ => by omega)
      refine ⟨r, Ev.step (fun k => spec_l04Top.l0.eq_2 ..) (ev_pos (by omega) ?_), h⟩
      rw [w64 (by omega) (by omega)]
      exact ev_bind0 (l04Height_eq h0 (by omega) (by omega) (by omega)) (ev_pos c hr)
    · have hm := top_max (up := up) (t := t - 1)
      have hr : ∀ s, 0 ≤ s → s < t → ht up s < top up := fun s _ _ => by
        have := ht_rise (up := up) (s := s) (t := t - 1) (by omega) (by omega); omega
      refine ⟨if ht up t < top up then t + 1 else t, Ev.step (fun k => spec_l04Top.l0.eq_2 ..) (ev_pos (by omega) ?_), ?_⟩
      · rw [w64 (n := t - 1) (by omega) (by omega)]
        refine ev_bind0 (l04Height_eq h0 (by omega) (by omega) (by omega)) (ev_neg c (ev_bind0 (l04Height_eq h0 (by omega) (by omega) (by omega)) ?_))
        by_cases g : ht up t < top up
        · refine ev_pos g (ev_ret ?_); rw [if_pos g, w64 (by omega) (by omega)]
        · refine ev_neg g (ev_ret ?_); rw [if_neg g]
      · by_cases g : ht up t < top up
        · obtain ⟨e, f⟩ := b g
          rw [if_pos g]
          refine ⟨⟨by omega, ?_, fun s s0 s1 => ?_⟩, by omega⟩
          · show top up ≤ ht up (t + 1); rw [e]; omega
          · rcases Int.lt_or_le s t with g' | g'
            · have := hr s s0 g'; omega
            · obtain rfl : s = t := by omega
              omega
        · rw [if_neg g]
          exact ⟨⟨by omega, by omega, fun s s0 s1 => by have := hr s s0 s1; omega⟩, by omega⟩
theorem mx_max (a b : Int) : mx a b = max a b := by unfold mx; omega
theorem spec_l04Top_ev {up : Int} (h0 : 0 ≤ up) (h1 : up ≤ 200000) : ∃ r, Ev (fun k => spec_l04Top.f k up) (r, top up) ∧ TopIs up r := by
  have hL := last_le h0 h1
  obtain ⟨r, hr, h⟩ := spec_l04Top_l0 h0 h1 (last up).toNat (last up) (by omega) (by omega) (fun g => ⟨rfl, by unfold top at g ⊢; omega⟩)
  refine ⟨r, ?_, h⟩
  unfold spec_l04Top.f
  rw [last_wrap h0 h1, w64 (n := last up + 1) (by omega) (by omega)]
  refine ev_bind0 (l04Height_eq h0 (by omega) (by omega) (by omega)) (ev_bind0 (l04Height_eq h0 (by omega) (by omega) (by omega)) ?_)
  rw [mx_max]; exact hr
theorem impl_flightOf_l0 {up : Int} (h0 : 0 ≤ up) (h1 : up ≤ 200000) : ∀ (d : Nat) (lo hi : Int), hi - lo = d → last up + 1 ≤ lo → lo ≤ hi → hi ≤ 60000 → ht up hi ≤ 0 → (∀ s, last up + 1 ≤ s → s < lo → 0 < ht up s) →
    ∃ r, Ev (fun k => impl_flightOf.l0 k up lo hi) r ∧ last up + 1 ≤ r ∧ ht up r ≤ 0 ∧ ∀ s, last up + 1 ≤ s → s < r → 0 < ht up s := by
  intro d
  have hL := last_le h0 h1
  induction d using Nat.strongRecOn with
  | ind d ih =>
    intro lo hi hd a b c e f
    by_cases hlt : lo < hi
    · by_cases g : ht up ((lo + hi) / 2) ≤ 0
      · obtain ⟨r, hr, h⟩ := ih ((lo + hi) / 2 - lo).toNat (by omega) lo ((lo + hi) / 2) (by omega) a (by omega) (by omega) g f
        refine ⟨r, Ev.step (fun k => impl_flightOf.l0.eq_2 ..) (ev_pos hlt ?_), h⟩
        rw [half_wrap (by omega) (by omega) (by omega) (by omega)]
        exact ev_bind0 (heightAt_eq h0 (by omega) (by omega) (by omega)) (ev_pos g hr)
      · obtain ⟨r, hr, h⟩ := ih (hi - ((lo + hi) / 2 + 1)).toNat (by omega) ((lo + hi) / 2 + 1) hi (by omega) (by omega) (by omega) c e (fun s s0 s1 => by
          have := ht_fall (up := up) (s := s) (t := (lo + hi) / 2) (by omega) (by omega); omega)
        refine ⟨r, Ev.step (fun k => impl_flightOf.l0.eq_2 ..) (ev_pos hlt ?_), h⟩
        rw [half_wrap (by omega) (by omega) (by omega) (by omega)]
        refine ev_bind0 (heightAt_eq h0 (by omega) (by omega) (by omega)) (ev_neg g ?_)
        rw [w64 (by omega) (by omega)]
        exact hr
    · obtain rfl : lo = hi := by omega
      exact ⟨lo, Ev.step (fun k => impl_flightOf.l0.eq_2 ..) (ev_neg hlt (ev_ret rfl)), a, e, f⟩
theorem impl_flightOf_ev {up : Int} (h0 : 0 ≤ up) (h1 : up ≤ 200000) : ∃ r, Ev (fun k => impl_flightOf.f k up) r ∧ FlightAt up r := by
  have hL := last_le h0 h1
  unfold impl_flightOf.f
  by_cases g : ht up 1 ≤ 0
  · exact ⟨1, ev_bind0 (heightAt_eq h0 (by omega) (by omega) (by omega)) (ev_pos g (ev_ret rfl)), flight_one g⟩
  · obtain ⟨r, hr, a, b, c⟩ := impl_flightOf_l0 h0 h1 (60000 - (last up + 1)).toNat (last up + 1) 60000 (by omega) (by omega) (by omega) (by omega) (ht_end h0 h1) (fun s _ _ => by omega)
    refine ⟨r, ev_bind0 (heightAt_eq h0 (by omega) (by omega) (by omega)) (ev_neg g ?_), flight_of_search (by omega) (by omega) b c⟩
    rw [last_wrap h0 h1, w64 (by omega) (by omega)]
    exact hr
/-- the last look at the first two milliseconds -/
theorem spec_l04Flight_l2 {up : Int} (h0 : 0 ≤ up) (h1 : up ≤ 200000) {hi : Int} (a : 1 ≤ hi) (b : hi ≤ 60000) (c : ht up 1 ≤ 0 ∨ (0 < ht up 1 ∧ FlightAt up hi)) : ∃ r, Ev (fun k => spec_l04Flight.l2 k up hi 1) r ∧ FlightAt up r := by
  by_cases g : 1 < hi
  · rcases c with c | ⟨c, h⟩
    · refine ⟨1, Ev.step (fun k => spec_l04Flight.l2.eq_2 ..) (ev_pos g (Ev.step (fun k => spec_l04Flight.j4.eq_2 ..) (ev_pos (by simp) ?_))), flight_one c⟩
      exact ev_bind0 (l04Height_eq h0 (by omega) (by omega) (by omega)) (ev_pos c (ev_ret rfl))
    · refine ⟨hi, Ev.step (fun k => spec_l04Flight.l2.eq_2 ..) (ev_pos g (Ev.step (fun k => spec_l04Flight.j4.eq_2 ..) (ev_pos (by simp) ?_))), h⟩
      refine ev_bind0 (l04Height_eq h0 (by omega) (by omega) (by omega)) (ev_neg (by omega) ?_)
      rw [w64 (by omega) (by omega)]
      by_cases g2 : (1 + 1 : Int) < hi
      · refine Ev.step (fun k => spec_l04Flight.l2.eq_2 ..) (ev_pos g2 (Ev.step (fun k => spec_l04Flight.j4.eq_2 ..) (ev_pos (by simp) ?_)))
        have h2 := h.2.2 2 (by omega) (by omega)
        refine ev_bind0 (l04Height_eq h0 (by omega) (by omega) (by omega)) (ev_neg h2 ?_)
        rw [w64 (by omega) (by omega)]
        by_cases g3 : (1 + 1 + 1 : Int) < hi
        · exact Ev.step (fun k => spec_l04Flight.l2.eq_2 ..) (ev_pos g3 (Ev.step (fun k => spec_l04Flight.j4.eq_2 ..) (ev_neg (by simp) (ev_ret rfl))))
        · exact Ev.step (fun k => spec_l04Flight.l2.eq_2 ..) (ev_neg g3 (Ev.step (fun k => spec_l04Flight.j4.eq_2 ..) (ev_neg (by simp) (ev_ret rfl))))
      · exact Ev.step (fun k => spec_l04Flight.l2.eq_2 ..) (ev_neg g2 (Ev.step (fun k => spec_l04Flight.j4.eq_2 ..) (ev_neg (by simp) (ev_ret rfl))))
  · refine ⟨hi, Ev.step (fun k => spec_l04Flight.l2.eq_2 ..) (ev_neg g (Ev.step (fun k => spec_l04Flight.j4.eq_2 ..) (ev_neg (by simp) (ev_ret rfl)))), ?_⟩
    obtain rfl : hi = 1 := by omega
    rcases c with c | ⟨_, h⟩
    · exact flight_one c
    · exact h
theorem spec_l04Flight_l1 {up : Int} (h0 : 0 ≤ up) (h1 : up ≤ 200000) : ∀ (d : Nat) (hi : Int), hi = d + 1 → hi ≤ 60000 → (ht up 1 ≤ 0 ∨ (0 < ht up 1 ∧ FlightAt up hi)) → ∃ r, Ev (fun k => spec_l04Flight.l1 k up hi) r ∧ FlightAt up r := by
  intro d
  induction d with
  | zero =>
    intro hi hd a c
    obtain ⟨r, hr, h⟩ := spec_l04Flight_l2 h0 h1 (by omega) a c
    exact ⟨r, Ev.step (fun k => spec_l04Flight.l1.eq_2 ..) (ev_neg (by omega) (Ev.step (fun k => spec_l04Flight.j2.eq_2 ..) hr)), h⟩
  | succ d ih =>
    intro hi hd a c
    by_cases g : ht up (hi - 1) ≤ 0
    · have c' : ht up 1 ≤ 0 := by
        rcases c with c | ⟨_, h⟩
        · exact c
        · exact absurd g (h.2.2 (hi - 1) (by omega) (by omega))
      obtain ⟨r, hr, h⟩ := ih (hi - 1) (by omega) (by omega) (.inl c')
      refine ⟨r, Ev.step (fun k => spec_l04Flight.l1.eq_2 ..) (ev_pos (by omega) ?_), h⟩
      rw [w64 (by omega) (by omega)]
      exact ev_bind0 (l04Height_eq h0 (by omega) (by omega) (by omega)) (ev_pos g hr)
    · obtain ⟨r, hr, h⟩ := spec_l04Flight_l2 h0 h1 (by omega) a c
      refine ⟨r, Ev.step (fun k => spec_l04Flight.l1.eq_2 ..) (ev_pos (by omega) ?_), h⟩
      rw [w64 (by omega) (by omega)]
      exact ev_bind0 (l04Height_eq h0 (by omega) (by omega) (by omega)) (ev_neg g (Ev.step (fun k => spec_l04Flight.j2.eq_2 ..) hr))
theorem spec_l04Flight_l0 {up : Int} (h0 : 0 ≤ up) (h1 : up ≤ 200000) : ∀ (d : Nat) (lo hi : Int), hi - lo = d → 0 ≤ lo → lo < hi → hi ≤ 60000 → ht up hi ≤ 0 → (0 < ht up 1 → 0 < ht up lo) →
    ∃ r, Ev (fun k => spec_l04Flight.l0 k up lo hi) r ∧ FlightAt up r := by
  intro d
  induction d using Nat.strongRecOn with
  | ind d ih =>
    intro lo hi hd a b c e f
    by_cases hlt : lo + 1 < hi
    · by_cases g : ht up ((lo + hi) / 2) ≤ 0
      · obtain ⟨r, hr, h⟩ := ih ((lo + hi) / 2 - lo).toNat (by omega) lo ((lo + hi) / 2) (by omega) a (by omega) (by omega) g f
        refine ⟨r, Ev.step (fun k => spec_l04Flight.l0.eq_2 ..) (ev_pos (by rw [w64 (by omega) (by omega)]; exact hlt) ?_), h⟩
        rw [half_wrap (by omega) (by omega) (by omega) (by omega)]
        exact ev_bind0 (l04Height_eq h0 (by omega) (by omega) (by omega)) (ev_pos g hr)
      · obtain ⟨r, hr, h⟩ := ih (hi - (lo + hi) / 2).toNat (by omega) ((lo + hi) / 2) hi (by omega) (by omega) (by omega) c e (fun _ => by omega)
        refine ⟨r, Ev.step (fun k => spec_l04Flight.l0.eq_2 ..) (ev_pos (by rw [w64 (by omega) (by omega)]; exact hlt) ?_), h⟩
        rw [half_wrap (by omega) (by omega) (by omega) (by omega)]
        exact ev_bind0 (l04Height_eq h0 (by omega) (by omega) (by omega)) (ev_neg g hr)
    · have hc : ht up 1 ≤ 0 ∨ (0 < ht up 1 ∧ FlightAt up hi) := by
        by_cases g : ht up 1 ≤ 0
        · exact .inl g
        · refine .inr ⟨by omega, flight_of_step (by omega) (by omega) e ?_⟩
          rw [show hi - 1 = lo by omega]; exact f (by omega)
      obtain ⟨r, hr, h⟩ := spec_l04Flight_l1 h0 h1 (hi - 1).toNat hi (by omega) c hc
      exact ⟨r, Ev.step (fun k => spec_l04Flight.l0.eq_2 ..) (ev_neg (by rw [w64 (by omega) (by omega)]; exact hlt) hr), h⟩
theorem spec_l04Flight_ev {up : Int} (h0 : 0 ≤ up) (h1 : up ≤ 200000) : ∃ r, Ev (fun k => spec_l04Flight.f k up) r ∧ FlightAt up r := by
  have hL := last_le h0 h1
  obtain ⟨t, ht0, ⟨h, h'⟩⟩ := spec_l04Top_ev h0 h1
  have hp : 0 < ht up 1 → 0 < ht up t := fun g => by
    have h2 := top_max (up := up) (t := 1)
    have h3 : top up ≤ ht up t := h.2.1
    omega
  have h4 := h.1
  obtain ⟨r, hr, k⟩ := spec_l04Flight_l0 h0 h1 (60000 - t).toNat t 60000 (by omega) h4 (by omega) (by omega) (ht_end h0 h1) hp
  exact ⟨r, ht0.bind hr, k⟩
theorem flight_both {up : Int} (h0 : 0 ≤ up) (h1 : up ≤ 200000) : ∃ r, Ev (fun k => impl_flightOf.f k up) r ∧ Ev (fun k => spec_l04Flight.f k up) r ∧ FlightAt up r ∧ 1 ≤ r ∧ r ≤ 60000 := by
  obtain ⟨r, a, b⟩ := impl_flightOf_ev h0 h1
  obtain ⟨r', a', b'⟩ := spec_l04Flight_ev h0 h1
  obtain rfl := least_uniq b b'
  exact ⟨r, a, a', b, flight_le h0 h1 b⟩

theorem drift_wrap {side wind t : Int} (h : -50000 ≤ side) (h' : side ≤ 50000) (k : -50000 ≤ wind) (k' : wind ≤ 50000) (t0 : 0 ≤ t) (t1 : t ≤ 60000) : wrap64 ((wrap64 (side + wind)) * t) = (side + wind) * t ∧ -4611686018427387904 ≤ (side + wind) * t ∧ (side + wind) * t ≤ 4611686018427387904 := by
  have hb := mul_bound (x := side + wind) (t := t) (by omega) (by omega) t0 t1
  rw [w64 (n := side + wind) (by omega) (by omega), w64 (by omega) (by omega)]
  omega
theorem driftAt_eq {side wind t : Int} (h : -50000 ≤ side) (h' : side ≤ 50000) (k : -50000 ≤ wind) (k' : wind ≤ 50000) (t0 : 0 ≤ t) (t1 : t ≤ 60000) : impl_driftAt.f side wind t = some (drift side wind t) := by
  obtain ⟨a, b, c⟩ := drift_wrap h h' k k' t0 t1
  unfold impl_driftAt.f
  rw [a, floorDiv_eq (by omega) b c]; rfl
theorem l04Drift_eq {side wind t : Int} (h : -50000 ≤ side) (h' : side ≤ 50000) (k : -50000 ≤ wind) (k' : wind ≤ 50000) (t0 : 0 ≤ t) (t1 : t ≤ 60000) : spec_l04Drift.f side wind t = some (drift side wind t) := by
  obtain ⟨a, b, c⟩ := drift_wrap h h' k k' t0 t1
  unfold spec_l04Drift.f
  rw [a, floor_eq (by omega) b c]; rfl
/-- the ranges that the drifts ask for -/
def DriftOk (side low high t : Int) : Prop := (-50000 ≤ side ∧ side ≤ 50000) ∧ (-50000 ≤ low ∧ low ≤ high ∧ high ≤ 50000) ∧ 0 ≤ t ∧ t ≤ 60000
theorem impl_DriftRange_in {side low high t : Int} (h : DriftOk side low high t) : Ev (fun k => impl_DriftRange.f k side low high t) (drift side low t, drift side high t, 0) := by
  obtain ⟨⟨a, a'⟩, ⟨b, b', b''⟩, c, c'⟩ := h
  unfold impl_DriftRange.f impl_isSide.f impl_areWinds.f impl_isSide.f impl_isFlightTime.f
  simp only [within_eq, Option.bind_some, show (-50000 ≤ side ∧ side ≤ 50000) by omega, show (-50000 ≤ low ∧ low ≤ 50000) by omega, show (-50000 ≤ high ∧ high ≤ 50000) by omega, show (0 ≤ t ∧ t ≤ 60000) by omega, b', decide_true, if_true, and_self, Bool.not_true]
  refine Ev.step (fun k => impl_DriftRange.j0.eq_2 ..) (ev_neg (by simp) ?_)
  exact ev_bind0 (driftAt_eq (by omega) (by omega) (by omega) (by omega) (by omega) (by omega)) (ev_bind0 (driftAt_eq (by omega) (by omega) (by omega) (by omega) (by omega) (by omega)) (Ev.now _))
theorem impl_DriftRange_out {side low high t : Int} (h : ¬ DriftOk side low high t) : Ev (fun k => impl_DriftRange.f k side low high t) (0, 0, 2) := by
  have fin : Ev (fun k => impl_DriftRange.j0 k side low high t true) (0, 0, 2) := Ev.step (fun k => impl_DriftRange.j0.eq_2 ..) (ev_pos rfl (Ev.now _))
  unfold DriftOk at h
  unfold impl_DriftRange.f impl_isSide.f impl_areWinds.f impl_isSide.f impl_isFlightTime.f
  simp only [within_eq, Option.bind_some]
  by_cases a : -50000 ≤ side ∧ side ≤ 50000
  · refine ev_pos (by simpa using a) ?_
    by_cases b : -50000 ≤ low ∧ low ≤ high ∧ high ≤ 50000
    · simp only [show (-50000 ≤ low ∧ low ≤ 50000) by omega, show (-50000 ≤ high ∧ high ≤ 50000) by omega, b.2.1, decide_true, if_true, and_self, Option.bind_some]
      have c : decide (0 ≤ t ∧ t ≤ 60000) = false := by simp; omega
      rw [c]
      exact fin
    · have e : (if decide (-50000 ≤ low ∧ low ≤ 50000) = true then if decide (-50000 ≤ high ∧ high ≤ 50000) = true then some (decide (low ≤ high)) else some false else some false) = some false := by
        by_cases g : -50000 ≤ low ∧ low ≤ 50000
        · by_cases g' : -50000 ≤ high ∧ high ≤ 50000
          · simp [g, g']; omega
          · simp [g']
        · simp [g]
      refine ev_bind0 e (ev_neg (by simp) fin)
  · exact ev_neg (by simpa using a) fin
/-- what LandingRange asks for -/
def LandOk (up side low high : Int) : Prop := (0 ≤ up ∧ up ≤ 200000) ∧ (-50000 ≤ side ∧ side ≤ 50000) ∧ (-50000 ≤ low ∧ low ≤ high ∧ high ≤ 50000)
theorem impl_Landing_at {up side low high t : Int} (h : LandOk up side low high) (hf : FlightAt up t) : Ev (fun k => impl_LandingRange.f k up side low high) (drift side low t, drift side high t, 0) := by
  obtain ⟨⟨a, a'⟩, ⟨b, b'⟩, c, c', c''⟩ := h
  obtain ⟨t', e, g⟩ := impl_flightOf_ev a a'
  obtain rfl := least_uniq g hf
  obtain ⟨t1, t2⟩ := flight_le a a' g
  unfold impl_LandingRange.f impl_isUp.f
  rw [within_eq, Option.bind_some]
  exact ev_bind0 rfl (ev_pos (by simp; omega) (e.bind ((impl_DriftRange_in ⟨⟨b, b'⟩, ⟨c, c', c''⟩, by omega, by omega⟩).bind (Ev.now _))))
theorem flight_there {up : Int} (h0 : 0 ≤ up) (h1 : up ≤ 200000) : ∃ t, FlightAt up t ∧ 1 ≤ t ∧ t ≤ 60000 := by
  obtain ⟨t, _, g⟩ := impl_flightOf_ev h0 h1
  exact ⟨t, g, flight_le h0 h1 g⟩
theorem impl_Landing_out {up side low high : Int} (h : ¬ LandOk up side low high) : Ev (fun k => impl_LandingRange.f k up side low high) (0, 0, 2) := by
  unfold LandOk at h
  unfold impl_LandingRange.f impl_isUp.f
  rw [within_eq, Option.bind_some]
  by_cases a : 0 ≤ up ∧ up ≤ 200000
  · obtain ⟨t, e, g⟩ := impl_flightOf_ev a.1 a.2
    obtain ⟨t1, t2⟩ := flight_le a.1 a.2 g
    refine ev_bind0 rfl (ev_pos (by simp; omega) (e.bind ((impl_DriftRange_out (side := side) (low := low) (high := high) (t := t) ?_).bind (Ev.now _))))
    unfold DriftOk; omega
  · exact ev_bind0 rfl (ev_neg (by simp; omega) (Ev.now _))
theorem mn_min (a b : Int) : mn a b = min a b := by unfold mn; omega
theorem impl_SideFor_l1 {wind least most t : Int} (w0 : -50000 ≤ wind) (w1 : wind ≤ 50000) (t0 : 0 ≤ t) (t1 : t ≤ 60000) {first : Int} (f0 : -50000 ≤ first) (f1 : first ≤ 50000) (fl : first = 50000 ∨ least ≤ drift first wind t) (ff : ∀ s, -50000 ≤ s → s < first → drift s wind t < least) :
    ∀ (d : Nat) (lo hi : Int), hi - lo = d → -50000 ≤ lo → lo ≤ hi → hi ≤ 50000 → (lo = -50000 ∨ drift lo wind t ≤ most) → (∀ s, s ≤ 50000 → hi < s → most < drift s wind t) →
    ∃ r c, Ev (fun k => impl_SideFor.l1 k wind least most t lo hi first) (r, c) ∧ (least ≤ most → SideIs wind t least most r c) := by
  intro d
  induction d using Nat.strongRecOn with
  | ind d ih =>
    intro lo hi hd a b c e f
    have hf : ∀ x y : Int, -50000 ≤ x → x ≤ 50000 → -50000 ≤ y → y ≤ 50000 → impl_floorDiv.f (wrap64 ((wrap64 (x + y)) + 1)) 2 = some ((x + y + 1) / 2) := fun x y _ _ _ _ => by
      rw [w64 (n := x + y) (by omega) (by omega), w64 (by omega) (by omega), floorDiv_eq (by omega) (by omega) (by omega)]
    by_cases hlt : lo < hi
    · by_cases g : drift ((lo + hi + 1) / 2) wind t ≤ most
      · obtain ⟨r, q, hr, h⟩ := ih (hi - (lo + hi + 1) / 2).toNat (by omega) ((lo + hi + 1) / 2) hi (by omega) (by omega) (by omega) c (.inr g) f
        refine ⟨r, q, Ev.step (fun k => impl_SideFor.l1.eq_2 ..) (ev_pos hlt (ev_bind0 (hf lo hi (by omega) (by omega) (by omega) (by omega)) ?_)), h⟩
        exact ev_bind0 (driftAt_eq (by omega) (by omega) w0 w1 t0 t1) (ev_pos g hr)
      · obtain ⟨r, q, hr, h⟩ := ih ((lo + hi + 1) / 2 - 1 - lo).toNat (by omega) lo ((lo + hi + 1) / 2 - 1) (by omega) a (by omega) (by omega) e (fun s s0 s1 => by
          have := drift_mono (a := (lo + hi + 1) / 2) (b := s) (wind := wind) t0 (by omega); omega)
        refine ⟨r, q, Ev.step (fun k => impl_SideFor.l1.eq_2 ..) (ev_pos hlt (ev_bind0 (hf lo hi (by omega) (by omega) (by omega) (by omega)) ?_)), h⟩
        refine ev_bind0 (driftAt_eq (by omega) (by omega) w0 w1 t0 t1) (ev_neg g ?_)
        rw [w64 (by omega) (by omega)]
        exact hr
    · obtain rfl : lo = hi := by omega
      have hs : ∃ side, mn (mx first 0) lo = side ∧ -50000 ≤ side ∧ side ≤ 50000 ∧ side = min (max first 0) lo := by
        rw [mn_min, mx_max]; exact ⟨_, rfl, by omega, by omega, rfl⟩
      obtain ⟨side, hs, s0, s1, hside⟩ := hs
      have fin : ∀ {r c : Int}, (Ev (fun _ => if side < first then some ((0 : Int), (4 : Int)) else if drift side wind t < least then some (0, 4) else if drift side wind t > most then some (0, 4) else some (side, 0)) (r, c)) → Ev (fun k => impl_SideFor.l1 k wind least most t lo lo first) (r, c) := fun {r c} h => by
        refine Ev.step (fun k => impl_SideFor.l1.eq_2 ..) (ev_neg hlt ?_)
        rw [hs]
        exact ev_bind0 (driftAt_eq s0 s1 w0 w1 t0 t1) h
      by_cases g1 : side < first
      · refine ⟨0, 4, fin (ev_pos g1 (Ev.now _)), fun hlm => .inr ⟨rfl, rfl, fun s a0 a1 ⟨h1, h2⟩ => ?_⟩⟩
        have p1 : first ≤ s := by
          rcases Int.lt_or_le s first with q | q
          · have := ff s a0 q; omega
          · exact q
        have p2 : s ≤ lo := by
          rcases Int.lt_or_le lo s with q | q
          · have := f s a1 q; omega
          · exact q
        omega
      · by_cases g2 : drift side wind t < least
        · refine ⟨0, 4, fin (ev_neg g1 (ev_pos g2 (Ev.now _))), fun hlm => .inr ⟨rfl, rfl, fun s a0 a1 ⟨h1, h2⟩ => ?_⟩⟩
          rcases fl with fl | fl
          · have := drift_mono (a := s) (b := side) (wind := wind) t0 (by omega); omega
          · have := drift_mono (a := first) (b := side) (wind := wind) t0 (by omega); omega
        · by_cases g3 : drift side wind t > most
          · refine ⟨0, 4, fin (ev_neg g1 (ev_neg g2 (ev_pos g3 (Ev.now _)))), fun hlm => .inr ⟨rfl, rfl, fun s a0 a1 ⟨h1, h2⟩ => ?_⟩⟩
            rcases e with e | e
            · have := drift_mono (a := side) (b := s) (wind := wind) t0 (by omega); omega
            · have := drift_mono (a := side) (b := lo) (wind := wind) t0 (by omega); omega
          · refine ⟨side, 0, fin (ev_neg g1 (ev_neg g2 (ev_neg g3 (Ev.now _)))), fun hlm => .inl ⟨rfl, s0, s1, ⟨by omega, by omega⟩, fun s a0 a1 ⟨h1, h2⟩ => ?_⟩⟩
            have p1 : first ≤ s := by
              rcases Int.lt_or_le s first with q | q
              · have := ff s a0 q; omega
              · exact q
            have p2 : s ≤ lo := by
              rcases Int.lt_or_le lo s with q | q
              · have := f s a1 q; omega
              · exact q
            omega
theorem impl_SideFor_l0 {wind least most t : Int} (w0 : -50000 ≤ wind) (w1 : wind ≤ 50000) (t0 : 0 ≤ t) (t1 : t ≤ 60000) :
    ∀ (d : Nat) (lo hi : Int), hi - lo = d → -50000 ≤ lo → lo ≤ hi → hi ≤ 50000 → (hi = 50000 ∨ least ≤ drift hi wind t) → (∀ s, -50000 ≤ s → s < lo → drift s wind t < least) →
    ∃ r c, Ev (fun k => impl_SideFor.l0 k wind least most t lo hi) (r, c) ∧ (least ≤ most → SideIs wind t least most r c) := by
  intro d
  induction d using Nat.strongRecOn with
  | ind d ih =>
    intro lo hi hd a b c e f
    have hf : ∀ x y : Int, -50000 ≤ x → x ≤ 50000 → -50000 ≤ y → y ≤ 50000 → impl_floorDiv.f (wrap64 (x + y)) 2 = some ((x + y) / 2) := fun x y _ _ _ _ => by
      rw [w64 (by omega) (by omega), floorDiv_eq (by omega) (by omega) (by omega)]
    by_cases hlt : lo < hi
    · by_cases g : drift ((lo + hi) / 2) wind t ≥ least
      · obtain ⟨r, q, hr, h⟩ := ih ((lo + hi) / 2 - lo).toNat (by omega) lo ((lo + hi) / 2) (by omega) a (by omega) (by omega) (.inr g) f
        refine ⟨r, q, Ev.step (fun k => impl_SideFor.l0.eq_2 ..) (ev_pos hlt (ev_bind0 (hf lo hi (by omega) (by omega) (by omega) (by omega)) ?_)), h⟩
        exact ev_bind0 (driftAt_eq (by omega) (by omega) w0 w1 t0 t1) (ev_pos g hr)
      · obtain ⟨r, q, hr, h⟩ := ih (hi - ((lo + hi) / 2 + 1)).toNat (by omega) ((lo + hi) / 2 + 1) hi (by omega) (by omega) (by omega) c e (fun s s0 s1 => by
          have := drift_mono (a := s) (b := (lo + hi) / 2) (wind := wind) t0 (by omega); omega)
        refine ⟨r, q, Ev.step (fun k => impl_SideFor.l0.eq_2 ..) (ev_pos hlt (ev_bind0 (hf lo hi (by omega) (by omega) (by omega) (by omega)) ?_)), h⟩
        refine ev_bind0 (driftAt_eq (by omega) (by omega) w0 w1 t0 t1) (ev_neg g ?_)
        rw [w64 (by omega) (by omega)]
        exact hr
    · obtain rfl : lo = hi := by omega
      obtain ⟨r, q, hr, h⟩ := impl_SideFor_l1 (least := least) (most := most) w0 w1 t0 t1 a c e f 100000 (-50000) 50000 (by omega) (by omega) (by omega) (by omega) (.inl rfl) (fun s s0 s1 => by omega)
      exact ⟨r, q, Ev.step (fun k => impl_SideFor.l0.eq_2 ..) (ev_neg hlt hr), h⟩
theorem spec_l04First_l0 {wind x t : Int} (w0 : -50000 ≤ wind) (w1 : wind ≤ 50000) (t0 : 0 ≤ t) (t1 : t ≤ 60000) :
    ∀ (d : Nat) (lo hi : Int), hi - lo = d → -50001 ≤ lo → lo < hi → hi ≤ 50001 → (hi = 50001 ∨ x ≤ drift hi wind t) → (∀ s, -50000 ≤ s → s ≤ lo → drift s wind t < x) →
    ∃ r, Ev (fun k => spec_l04First.l0 k wind t x lo hi) r ∧ -50000 ≤ r ∧ r ≤ 50001 ∧ (r = 50001 ∨ x ≤ drift r wind t) ∧ ∀ s, -50000 ≤ s → s < r → drift s wind t < x := by
  intro d
  induction d using Nat.strongRecOn with
  | ind d ih =>
    intro lo hi hd a b c e f
    have hm : -50001 ≤ lo → lo ≤ 50001 → -50001 ≤ hi → hi ≤ 50001 → lo < hi → wrap64 (lo + (wrap64 (Int.tdiv (wrap64 (hi - lo)) 2))) = lo + (hi - lo) / 2 := fun _ _ _ _ _ => by
      rw [w64 (n := hi - lo) (by omega) (by omega), Int.tdiv_eq_ediv_of_nonneg (by omega), w64 (n := (hi - lo) / 2) (by omega) (by omega), w64 (by omega) (by omega)]
    by_cases hlt : lo + 1 < hi
    · by_cases g : drift (lo + (hi - lo) / 2) wind t ≥ x
      · obtain ⟨r, hr, h⟩ := ih (lo + (hi - lo) / 2 - lo).toNat (by omega) lo (lo + (hi - lo) / 2) (by omega) a (by omega) (by omega) (.inr g) f
        refine ⟨r, Ev.step (fun k => spec_l04First.l0.eq_2 ..) (ev_pos (by rw [w64 (by omega) (by omega)]; exact hlt) ?_), h⟩
        rw [hm (by omega) (by omega) (by omega) (by omega) (by omega)]
        exact ev_bind0 (l04Drift_eq (by omega) (by omega) w0 w1 t0 t1) (ev_pos g hr)
      · obtain ⟨r, hr, h⟩ := ih (hi - (lo + (hi - lo) / 2)).toNat (by omega) (lo + (hi - lo) / 2) hi (by omega) (by omega) (by omega) c e (fun s s0 s1 => by
          have := drift_mono (a := s) (b := lo + (hi - lo) / 2) (wind := wind) t0 (by omega); omega)
        refine ⟨r, Ev.step (fun k => spec_l04First.l0.eq_2 ..) (ev_pos (by rw [w64 (by omega) (by omega)]; exact hlt) ?_), h⟩
        rw [hm (by omega) (by omega) (by omega) (by omega) (by omega)]
        exact ev_bind0 (l04Drift_eq (by omega) (by omega) w0 w1 t0 t1) (ev_neg g hr)
    · exact ⟨hi, Ev.step (fun k => spec_l04First.l0.eq_2 ..) (ev_neg (by rw [w64 (by omega) (by omega)]; exact hlt) (ev_ret rfl)), by omega, c, e, fun s s0 s1 => f s s0 (by omega)⟩
theorem spec_l04First_ev {wind x t : Int} (w0 : -50000 ≤ wind) (w1 : wind ≤ 50000) (t0 : 0 ≤ t) (t1 : t ≤ 60000) : ∃ r, Ev (fun k => spec_l04First.f k wind t x) r ∧ -50000 ≤ r ∧ r ≤ 50001 ∧ (r = 50001 ∨ x ≤ drift r wind t) ∧ ∀ s, -50000 ≤ s → s < r → drift s wind t < x :=
  spec_l04First_l0 w0 w1 t0 t1 100002 (-50001) 50001 (by omega) (by omega) (by omega) (by omega) (.inl rfl) (fun s _ _ => by omega)
/-- what SideFor asks for -/
def SideOk (up wind least most : Int) : Prop := (0 ≤ up ∧ up ≤ 200000) ∧ (-50000 ≤ wind ∧ wind ≤ 50000) ∧ (-1000000 ≤ least ∧ least ≤ most ∧ most ≤ 1000000)
theorem impl_SideFor_in {up wind least most : Int} (h : SideOk up wind least most) : ∃ t r c, FlightAt up t ∧ 1 ≤ t ∧ t ≤ 60000 ∧ Ev (fun k => impl_SideFor.f k up wind least most) (r, c) ∧ SideIs wind t least most r c := by
  obtain ⟨⟨a, a'⟩, ⟨b, b'⟩, c, c', c''⟩ := h
  obtain ⟨t, e, g, t1, t2⟩ : ∃ t, Ev (fun k => impl_flightOf.f k up) t ∧ FlightAt up t ∧ 1 ≤ t ∧ t ≤ 60000 := by
    obtain ⟨t, e, f⟩ := impl_flightOf_ev a a'
    exact ⟨t, e, f, flight_le a a' f⟩
  obtain ⟨r, q, hr, h⟩ := impl_SideFor_l0 (least := least) (most := most) b b' (by omega) t2 100000 (-50000) 50000 (by omega) (by omega) (by omega) (by omega) (.inl rfl) (fun s _ _ => by omega)
  refine ⟨t, r, q, g, t1, t2, ?_, h c'⟩
  unfold impl_SideFor.f impl_isUp.f impl_isSide.f
  simp only [within_eq, Option.bind_some, show (0 ≤ up ∧ up ≤ 200000) by omega, show (-50000 ≤ wind ∧ wind ≤ 50000) by omega, show (-1000000 ≤ least ∧ least ≤ 1000000) by omega, show (least ≤ most ∧ most ≤ 1000000) by omega, decide_true, if_true, and_self, Bool.not_true]
  exact Ev.step (fun k => impl_SideFor.j0.eq_2 ..) (ev_neg (by simp) (e.bind hr))
theorem impl_SideFor_out {up wind least most : Int} (h : ¬ SideOk up wind least most) : Ev (fun k => impl_SideFor.f k up wind least most) (0, 2) := by
  have fin : Ev (fun k => impl_SideFor.j0 k up wind least most true) (0, 2) := Ev.step (fun k => impl_SideFor.j0.eq_2 ..) (ev_pos rfl (Ev.now _))
  unfold SideOk at h
  unfold impl_SideFor.f impl_isUp.f impl_isSide.f
  simp only [within_eq, Option.bind_some]
  by_cases a : 0 ≤ up ∧ up ≤ 200000
  · refine ev_pos (by simpa using a) ?_
    by_cases b : -50000 ≤ wind ∧ wind ≤ 50000
    · refine ev_pos (by simpa using b) ?_
      by_cases c : -1000000 ≤ least ∧ least ≤ 1000000
      · refine ev_pos (by simpa using c) ?_
        have d : decide (least ≤ most ∧ most ≤ 1000000) = false := by simp; omega
        rw [d]; exact fin
      · exact ev_neg (by simpa using c) fin
    · exact ev_neg (by simpa using b) fin
  · exact ev_neg (by simpa using a) fin
theorem spec_SideFor_in {up wind least most : Int} (h : SideOk up wind least most) : ∃ t r c, FlightAt up t ∧ 1 ≤ t ∧ t ≤ 60000 ∧ Ev (fun k => spec_SideFor.f k up wind least most) (r, c) ∧ SideIs wind t least most r c := by
  obtain ⟨⟨a, a'⟩, ⟨b, b'⟩, c, c', c''⟩ := h
  obtain ⟨t, e, g, t1, t2⟩ : ∃ t, Ev (fun k => spec_l04Flight.f k up) t ∧ FlightAt up t ∧ 1 ≤ t ∧ t ≤ 60000 := by
    obtain ⟨t, e, f⟩ := spec_l04Flight_ev a a'
    exact ⟨t, e, f, flight_le a a' f⟩
  have head : ∀ {r q : Int}, Ev (fun k => spec_SideFor.j1 k up wind least most 0) (r, q) → Ev (fun k => spec_SideFor.f k up wind least most) (r, q) := fun {r q} h => by
    unfold spec_SideFor.f spec_l04Code.f
    simp only [in_eq, Option.bind_some]
    simp only [show (0 ≤ up ∧ up ≤ 200000) by omega, show (-50000 ≤ wind ∧ wind ≤ 50000) by omega, show (-1000000 ≤ least ∧ least ≤ 1000000) by omega, show (least ≤ most ∧ most ≤ 1000000) by omega, show ((-50000 : Int) ≤ 0 ∧ (0 : Int) ≤ 50000) by omega, show ((0 : Int) ≤ 0 ∧ (0 : Int) ≤ 60000) by omega, decide_true, if_true, and_self, Bool.not_true, Option.bind_some]
    exact Ev.step (fun k => spec_SideFor.j0.eq_2 ..) (ev_neg (by simp) h)
  have d1 := drift_mono (a := -50000) (b := 50000) (wind := wind) (t := t) (by omega) (by omega)
  by_cases g1 : drift 50000 wind t < least
  · refine ⟨t, 0, 4, g, t1, t2, head (Ev.step (fun k => spec_SideFor.j1.eq_2 ..) (ev_pos rfl (e.bind (ev_bind0 (l04Drift_eq (by omega) (by omega) b b' (by omega) t2) (ev_pos g1 (Ev.step (fun k => spec_SideFor.j2.eq_2 ..) (ev_pos rfl (Ev.now _)))))))), .inr ⟨rfl, rfl, fun s s0 s1 ⟨h1, h2⟩ => ?_⟩⟩
    have := drift_mono (a := s) (b := 50000) (wind := wind) (t := t) (by omega) s1; omega
  by_cases g2 : drift (-50000) wind t > most
  · refine ⟨t, 0, 4, g, t1, t2, head (Ev.step (fun k => spec_SideFor.j1.eq_2 ..) (ev_pos rfl (e.bind (ev_bind0 (l04Drift_eq (by omega) (by omega) b b' (by omega) t2) (ev_neg g1 (ev_bind0 (l04Drift_eq (by omega) (by omega) b b' (by omega) t2) (Ev.step (fun k => spec_SideFor.j2.eq_2 ..) (ev_pos (by simpa using g2) (Ev.now _))))))))), .inr ⟨rfl, rfl, fun s s0 s1 ⟨h1, h2⟩ => ?_⟩⟩
    have := drift_mono (a := -50000) (b := s) (wind := wind) (t := t) (by omega) s0; omega
  obtain ⟨p, hp, p0, p1, p2, p3⟩ := spec_l04First_ev (x := least) b b' (show 0 ≤ t by omega) t2
  obtain ⟨q, hq, q0, q1, q2, q3⟩ := spec_l04First_ev (x := most + 1) b b' (show 0 ≤ t by omega) t2
  have p4 : p ≤ 50000 := by
    rcases Int.lt_or_le 50000 p with k | k
    · have := p3 50000 (by omega) k; omega
    · exact k
  have p5 : least ≤ drift p wind t := by rcases p2 with p2 | p2 <;> omega
  have q4 : -50000 < q := by
    rcases Int.lt_or_le (-50000) q with k | k
    · exact k
    · have : q = -50000 := by omega
      rw [this] at q2; omega
  have q5 : drift (q - 1) wind t ≤ most := by have := q3 (q - 1) (by omega) (by omega); omega
  have inrange : ∀ s, -50000 ≤ s → s ≤ 50000 → Found wind t least most s → p ≤ s ∧ s ≤ q - 1 := fun s s0 s1 ⟨h1, h2⟩ => by
    constructor
    · rcases Int.lt_or_le s p with k | k
      · have := p3 s s0 k; omega
      · exact k
    · rcases Int.lt_or_le (q - 1) s with k | k
      · rcases q2 with q2 | q2
        · omega
        · have := drift_mono (a := q) (b := s) (wind := wind) (t := t) (by omega) (by omega); omega
      · exact k
  have tail : ∀ {r c : Int}, Ev (fun _ => if p > q - 1 then some ((0 : Int), (4 : Int)) else if p > 0 then some (p, 0) else if q - 1 < 0 then some (q - 1, 0) else some (0, 0)) (r, c) → Ev (fun k => spec_SideFor.f k up wind least most) (r, c) := fun {r c} h => by
    refine head (Ev.step (fun k => spec_SideFor.j1.eq_2 ..) (ev_pos rfl (e.bind (ev_bind0 (l04Drift_eq (by omega) (by omega) b b' (by omega) t2) (ev_neg g1 (ev_bind0 (l04Drift_eq (by omega) (by omega) b b' (by omega) t2) (Ev.step (fun k => spec_SideFor.j2.eq_2 ..) (ev_neg (by simpa using g2) ?_))))))))
    rw [w64 (n := most + 1) (by omega) (by omega)]
    refine hp.bind (hq.bind ?_)
    rw [w64 (n := q - 1) (by omega) (by omega)]
    exact h
  have inside : ∀ s, p ≤ s → s ≤ q - 1 → Found wind t least most s := fun s h1 h2 => by
    have := drift_mono (a := p) (b := s) (wind := wind) (t := t) (by omega) h1
    have := drift_mono (a := s) (b := q - 1) (wind := wind) (t := t) (by omega) h2
    exact ⟨by omega, by omega⟩
  by_cases r1 : p > q - 1
  · exact ⟨t, 0, 4, g, t1, t2, tail (ev_pos r1 (Ev.now _)), .inr ⟨rfl, rfl, fun s s0 s1 h => by have := inrange s s0 s1 h; omega⟩⟩
  · by_cases r2 : p > 0
    · exact ⟨t, p, 0, g, t1, t2, tail (ev_neg r1 (ev_pos r2 (Ev.now _))), .inl ⟨rfl, p0, p4, inside p (by omega) (by omega), fun s s0 s1 h => by have := inrange s s0 s1 h; omega⟩⟩
    · by_cases r3 : q - 1 < 0
      · exact ⟨t, q - 1, 0, g, t1, t2, tail (ev_neg r1 (ev_neg r2 (ev_pos r3 (Ev.now _)))), .inl ⟨rfl, by omega, by omega, inside (q - 1) (by omega) (by omega), fun s s0 s1 h => by have := inrange s s0 s1 h; omega⟩⟩
      · exact ⟨t, 0, 0, g, t1, t2, tail (ev_neg r1 (ev_neg r2 (ev_neg r3 (Ev.now _)))), .inl ⟨rfl, by omega, by omega, inside 0 (by omega) (by omega), fun s s0 s1 h => by omega⟩⟩
theorem spec_SideFor_out {up wind least most : Int} (h : ¬ SideOk up wind least most) : Ev (fun k => spec_SideFor.f k up wind least most) (0, 2) := by
  have fin : Ev (fun k => spec_SideFor.j1 k up wind least most 2) (0, 2) := Ev.step (fun k => spec_SideFor.j1.eq_2 ..) (ev_neg (by decide) (Ev.now _))
  unfold SideOk at h
  unfold spec_SideFor.f spec_l04Code.f
  simp only [in_eq, Option.bind_some]
  by_cases a : 0 ≤ up ∧ up ≤ 200000
  · by_cases b : -50000 ≤ wind ∧ wind ≤ 50000
    · simp only [a, b, show ((-50000 : Int) ≤ 0 ∧ (0 : Int) ≤ 50000) by omega, show ((0 : Int) ≤ 0 ∧ (0 : Int) ≤ 60000) by omega, decide_true, if_true, and_self, Option.bind_some]
      by_cases c : -1000000 ≤ least ∧ least ≤ 1000000
      · refine ev_pos (by simpa using c) ?_
        have d : decide (least ≤ most ∧ most ≤ 1000000) = false := by simp; omega
        rw [d]
        exact Ev.step (fun k => spec_SideFor.j0.eq_2 ..) (ev_pos (by simp) fin)
      · exact ev_neg (by simpa using c) (Ev.step (fun k => spec_SideFor.j0.eq_2 ..) (ev_pos rfl fin))
    · simp only [a, b, show ((-50000 : Int) ≤ 0 ∧ (0 : Int) ≤ 50000) by omega, decide_true, decide_false, if_true, and_self, Option.bind_some, Bool.false_eq_true, if_false]
      exact ev_neg (by decide) (Ev.step (fun k => spec_SideFor.j0.eq_2 ..) (ev_neg (by simp) fin))
  · simp only [a, decide_false, Option.bind_some, Bool.false_eq_true, if_false]
    exact ev_neg (by decide) (Ev.step (fun k => spec_SideFor.j0.eq_2 ..) (ev_neg (by simp) fin))
theorem Side_in {up wind least most : Int} (h : SideOk up wind least most) : ∃ t r c, FlightAt up t ∧ 1 ≤ t ∧ t ≤ 60000 ∧ Ev (fun k => impl_SideFor.f k up wind least most) (r, c) ∧ Ev (fun k => spec_SideFor.f k up wind least most) (r, c) ∧ SideIs wind t least most r c := by
  obtain ⟨t, r, c, a1, a2, a3, a4, a5⟩ := impl_SideFor_in h
  obtain ⟨t', r', c', b1, b2, b3, b4, b5⟩ := spec_SideFor_in h
  obtain rfl := least_uniq a1 b1
  obtain ⟨rfl, rfl⟩ := side_uniq a5 b5
  exact ⟨t, r, c, a1, a2, a3, a4, b4, a5⟩

theorem main : laws_FnLandings.Pure := by
  intro c _ _ hw
  apply Ev.rounds
  unfold laws_FnLandings.f
  by_cases g : (c.length : Int) > 4096
  · exact ev_bind0 (big_true g) (ev_pos rfl (Ev.now _))
  refine ev_bind0 (big_false g) (ev_neg (by decide) ?_)
  have hc := code_of hw g
  obtain ⟨up, wind, least, most, e0⟩ := DrawSideFor_ev hc
  by_cases r : SideOk up wind least most
  · obtain ⟨t, s, code, hf, t1, t2, a, b, hs⟩ := Side_in r
    obtain ⟨r1, r2, r3⟩ := r
    refine e0.bind (a.bind (b.bind (ev_pos rfl (Ev.step (fun k => laws_FnLandings.j0.eq_2 ..) (ev_neg (by simp) ?_)))))
    dsimp only
    rcases hs with ⟨rfl, s0, s1, ⟨h1, h2⟩, h3⟩ | ⟨rfl, _, _⟩
    · refine ev_pos rfl ((impl_Landing_at ⟨r1, ⟨s0, s1⟩, by omega, by omega, by omega⟩ hf).bind (ev_pos rfl (ev_pos rfl (ev_neg (by show ¬ drift s wind t < least; omega) ?_))))
      refine Ev.step (fun k => laws_FnLandings.j1.eq_2 ..) (ev_neg (by simp; omega) ?_)
      by_cases z : s = 0
      · exact ev_pos z (Ev.now _)
      · refine ev_neg z ?_
        have em : mx s (wrap64 (-s)) = max s (-s) := by rw [w64 (by omega) (by omega), mx_max]
        obtain ⟨h, eh, dh⟩ := roll_ev hc 403
        obtain ⟨v, i', h', ev, _, v0, v1⟩ := below_some dh (n := 2 * max s (-s) - 1) (by omega)
        refine eh.bind ?_
        dsimp only
        rw [em, w64 (n := 2 * max s (-s)) (by omega) (by omega), w64 (n := 2 * max s (-s) - 1) (by omega) (by omega)]
        refine ev_bind0 ev ?_
        dsimp only
        rw [w64 (n := v - max s (-s)) (by omega) (by omega), w64 (by omega) (by omega)]
        refine (impl_Landing_at ⟨r1, ⟨by omega, by omega⟩, by omega, by omega, by omega⟩ hf).bind (ev_pos rfl ?_)
        have hn : ¬ Found wind t least most (v - max s (-s) + 1) := fun hF => by
          have := h3 _ (by omega) (by omega) hF; omega
        unfold Found at hn
        by_cases q : drift (v - max s (-s) + 1) wind t < least
        · exact ev_pos q (Ev.now _)
        · exact ev_neg q (ev_ret (by simp; omega))
    · exact ev_neg (by decide) (Ev.now _)
  · refine e0.bind ((impl_SideFor_out r).bind ((spec_SideFor_out r).bind (ev_pos rfl (Ev.step (fun k => laws_FnLandings.j0.eq_2 ..) (ev_neg (by simp) (ev_neg (by decide) (Ev.now _)))))))

end Go.Proofs.Ytkedlfedjbgbiaa.PureFnLandings
namespace Go.Proofs.Ytkedlfedjbgbiaa.Pure
theorem FnLandings : QFnLandings.laws_FnLandings.Pure := PureFnLandings.main
end Go.Proofs.Ytkedlfedjbgbiaa.Pure
