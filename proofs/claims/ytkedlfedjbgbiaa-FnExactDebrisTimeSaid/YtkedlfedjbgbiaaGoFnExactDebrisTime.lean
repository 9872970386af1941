/- DebrisTime answers what the reference's answers, for every shot; no condition. -/
import Derived.Test.YtkedlfedjbgbiaaMa
import Derived.Test.YtkedlfedjbgbiaaPFnExactDebrisTimex
namespace Go.Proofs.Ytkedlfedjbgbiaa.GoFnExactDebrisTime
open Go.RowKit Go.Proofs.Ytkedlfedjbgbiaa.PFnExactDebrisTime Go.Proofs.YtkedlfedjbgbiaaW.PrintWords Go.Proofs.YtkedlfedjbgbiaaW.PrintLast Go.Proofs.Ytkedlfedjbgbiaa.Ma
set_option linter.unusedVariables false
set_option linter.unusedSimpArgs false

/-! ### division, ranges -/
theorem in_eq (a b c : Int) : spec_l01In.f a b c = some (decide (b ≤ a ∧ a ≤ c)) := by
  unfold spec_l01In.f
  by_cases h : b ≤ a <;> simp [h]
theorem within_eq (a b c : Int) : impl_within.f a b c = some (decide (b ≤ a ∧ a ≤ c)) := by
  unfold impl_within.f
  by_cases h : b ≤ a <;> simp [h]
theorem tdiv_floor {a b : Int} (hb : 0 < b) : (Int.tmod a b < 0 → Int.tdiv a b - 1 = a / b) ∧ (¬ Int.tmod a b < 0 → Int.tdiv a b = a / b) := by
  have h1 := Int.tdiv_eq_ediv (a := a) (b := b)
  have h2 := Int.tmod_eq_emod (a := a) (b := b)
  have h3 := Int.emod_nonneg a (show b ≠ 0 by omega)
  have h4 := Int.emod_lt_of_pos a hb
  by_cases h : 0 ≤ a ∨ b ∣ a
  · rw [if_pos h] at h1 h2
    omega
  · rw [if_neg h] at h1 h2
    rw [Int.sign_eq_one_of_pos hb] at h1
    omega
theorem ediv_small {a b : Int} (hb : 0 < b) (h : -4611686018427387904 ≤ a) (h' : a ≤ 4611686018427387904) : -4611686018427387904 ≤ a / b ∧ a / b ≤ 4611686018427387904 := by
  have h1 : -4611686018427387904 * b ≤ a := by
    have := Int.mul_le_mul_of_nonneg_left (show 1 ≤ b by omega) (show (0 : Int) ≤ 4611686018427387904 by omega); omega
  have h2 : a < (4611686018427387904 + 1) * b := by
    have := Int.mul_le_mul_of_nonneg_left (show 1 ≤ b by omega) (show (0 : Int) ≤ 4611686018427387905 by omega); omega
  have h3 := (Int.le_ediv_iff_mul_le hb).2 h1
  have h4 := (Int.ediv_lt_iff_lt_mul hb).2 h2
  omega
theorem floorDiv_eq {a b : Int} (hb : 0 < b) (h : -4611686018427387904 ≤ a) (h' : a ≤ 4611686018427387904) : impl_floorDiv.f a b = some (a / b) := by
  have h1 := tdiv_floor (a := a) hb
  have h2 := ediv_small hb h h'
  unfold impl_floorDiv.f
  rw [if_neg (by omega)]
  by_cases c : Int.tmod a b < 0
  · have := h1.1 c
    rw [if_pos c, w64 (n := Int.tdiv a b) (by omega) (by omega), w64 (by omega) (by omega), this]
  · have := h1.2 c
    rw [if_neg c, w64 (by omega) (by omega), this]
theorem floor_eq {a b : Int} (hb : 0 < b) (h : -4611686018427387904 ≤ a) (h' : a ≤ 4611686018427387904) : spec_l01Floor.f a b = some (a / b) := by
  have h1 := tdiv_floor (a := a) hb
  have h2 := ediv_small hb h h'
  unfold spec_l01Floor.f
  rw [if_neg (by omega), if_neg (by omega)]
  by_cases c : Int.tmod a b < 0
  · have := h1.1 c
    rw [if_pos c, w64 (n := Int.tdiv a b) (by omega) (by omega), w64 (by omega) (by omega), this]
  · have := h1.2 c
    rw [if_neg c, w64 (by omega) (by omega), this]

theorem spec_IsShot_eq (a b c d : Int) : spec_IsShot.f a b c d = some (decide ((0 ≤ a ∧ a ≤ 200000) ∧ (-50000 ≤ b ∧ b ≤ 50000) ∧ (100 ≤ c ∧ c ≤ 10000) ∧ (0 ≤ d ∧ d ≤ 200000))) := by
  unfold spec_IsShot.f spec_l04Code.f
  simp only [in_eq, Option.bind_some]
  by_cases h0 : 0 ≤ a ∧ a ≤ 200000
  · by_cases h1 : -50000 ≤ b ∧ b ≤ 50000
    · by_cases h2 : 100 ≤ c ∧ c ≤ 10000
      · simp [h0, h1, h2]
      · simp [h0, h1, h2]
    · simp [h0, h1]
  · simp [h0]
theorem impl_IsShot_eq (a b c d : Int) : impl_IsShot.f a b c d = some (decide ((0 ≤ a ∧ a ≤ 200000) ∧ (-50000 ≤ b ∧ b ≤ 50000) ∧ (100 ≤ c ∧ c ≤ 10000) ∧ (0 ≤ d ∧ d ≤ 200000))) := by
  unfold impl_IsShot.f impl_isUp.f impl_isSide.f
  simp only [within_eq, Option.bind_some]
  by_cases h0 : 0 ≤ a ∧ a ≤ 200000
  · by_cases h1 : -50000 ≤ b ∧ b ≤ 50000
    · by_cases h2 : 100 ≤ c ∧ c ≤ 10000
      · simp [h0, h1, h2]
      · simp [h0, h1, h2]
    · simp [h0, h1]
  · simp [h0]

/-! flights -/
def F (up t : Int) : Int := 2000 * up * t - 9810 * t * t
def ht (up t : Int) : Int := F up t / 2000000
theorem F_diff (up s t : Int) : F up t - F up s = (t - s) * (2000 * up - 9810 * (s + t)) := by unfold F; grind
theorem F_rise {up s t : Int} (hst : s ≤ t) (h : 9810 * (s + t) ≤ 2000 * up) : F up s ≤ F up t := by
  have := F_diff up s t
  have h2 : 0 ≤ (t - s) * (2000 * up - 9810 * (s + t)) := Int.mul_nonneg (by omega) (by omega)
  omega
theorem F_fall {up s t : Int} (hst : s ≤ t) (h : 2000 * up ≤ 9810 * (s + t)) : F up t ≤ F up s := by
  have := F_diff up s t
  have h2 : 0 ≤ (t - s) * (9810 * (s + t) - 2000 * up) := Int.mul_nonneg (by omega) (by omega)
  have h3 : (t - s) * (9810 * (s + t) - 2000 * up) = -((t - s) * (2000 * up - 9810 * (s + t))) := by grind
  omega
theorem ht_mono {up s t : Int} (h : F up s ≤ F up t) : ht up s ≤ ht up t := Int.ediv_le_ediv (by omega) h
def last (up : Int) : Int := 1000 * up / 9810
theorem last_b (up : Int) : 9810 * last up ≤ 1000 * up ∧ 1000 * up < 9810 * (last up + 1) := by unfold last; omega
theorem ht_rise {up s t : Int} (hst : s ≤ t) (h : t ≤ last up) : ht up s ≤ ht up t := by
  have := last_b up
  exact ht_mono (F_rise hst (by omega))
theorem ht_fall {up s t : Int} (hst : s ≤ t) (h : last up + 1 ≤ s) : ht up t ≤ ht up s := by
  have := last_b up
  exact ht_mono (F_fall hst (by omega))
/-- the least from lo on -/
def Least (p : Int → Prop) (lo r : Int) : Prop := lo ≤ r ∧ p r ∧ ∀ s, lo ≤ s → s < r → ¬ p s
theorem least_uniq {p : Int → Prop} {lo a b : Int} (ha : Least p lo a) (hb : Least p lo b) : a = b := by
  obtain ⟨h1, h2, h3⟩ := ha
  obtain ⟨k1, k2, k3⟩ := hb
  rcases Int.lt_trichotomy a b with h | h | h
  · exact absurd h2 (k3 a h1 h)
  · exact h
  · exact absurd k2 (h3 b k1 h)
def top (up : Int) : Int := max (ht up (last up)) (ht up (last up + 1))
/-- nothing is higher than the top -/
theorem top_max {up t : Int} : ht up t ≤ top up := by
  unfold top
  by_cases h : t ≤ last up
  · have := ht_rise h (Int.le_refl _); omega
  · have := ht_fall (up := up) (s := last up + 1) (t := t) (by omega) (by omega); omega
def TopAt (up r : Int) : Prop := Least (fun t => top up ≤ ht up t) 0 r
theorem F_up {u v t : Int} (ht : 0 ≤ t) (h : u ≤ v) : F u t ≤ F v t := by
  have : F v t - F u t = 2000 * ((v - u) * t) := by unfold F; grind
  have := Int.mul_nonneg (show 0 ≤ v - u by omega) ht
  omega
theorem top_up {u v : Int} (hu : 0 ≤ u) (h : u ≤ v) : top u ≤ top v := by
  have h0 : 0 ≤ last u := by unfold last; omega
  have h1 : ht u (last u) ≤ ht v (last u) := Int.ediv_le_ediv (by omega) (F_up h0 h)
  have h2 : ht u (last u + 1) ≤ ht v (last u + 1) := Int.ediv_le_ediv (by omega) (F_up (by omega) h)
  have h4 := top_max (up := v) (t := last u)
  have h5 := top_max (up := v) (t := last u + 1)
  have h3 : top u = max (ht u (last u)) (ht u (last u + 1)) := rfl
  omega
/-- bounds: what the program computes fits in its numbers -/
theorem F_bound {up t : Int} (h0 : 0 ≤ up) (h1 : up ≤ 200001) (t0 : 0 ≤ t) (t1 : t ≤ 70000) : 0 ≤ 2000 * up * t ∧ 2000 * up * t ≤ 28001000000000 ∧ 0 ≤ 9810 * t ∧ 9810 * t ≤ 686700000 ∧ 0 ≤ 9810 * t * t ∧ 9810 * t * t ≤ 48069000000000 := by
  have a := Int.mul_nonneg (show 0 ≤ 2000 * up by omega) t0
  have b := Int.mul_le_mul (show 2000 * up ≤ 400002000 by omega) t1 t0 (by omega)
  have c := Int.mul_nonneg (show 0 ≤ 9810 * t by omega) t0
  have d := Int.mul_le_mul (show 9810 * t ≤ 686700000 by omega) t1 t0 (by omega)
  omega
/-! flight and drift -/
def FlightAt (up r : Int) : Prop := Least (fun t => ht up t ≤ 0) 1 r
theorem ht_end {up : Int} (h0 : 0 ≤ up) (h1 : up ≤ 200000) : ht up 60000 ≤ 0 := by
  unfold ht F; omega
theorem last_le {up : Int} (h0 : 0 ≤ up) (h1 : up ≤ 200000) : 0 ≤ last up ∧ last up ≤ 20387 := by unfold last; omega
/-- where the first millisecond is in the air: all up to the last rise is -/
theorem ht_pos {up s : Int} (h : 0 < ht up 1) (h1 : 1 ≤ s) (h2 : s ≤ last up) : 0 < ht up s := by
  have := ht_rise h1 h2; omega
/-- so the flight is found behind the last rise -/
theorem flight_of_search {up r : Int} (h : 0 < ht up 1) (h0 : 1 ≤ r) (hr : ht up r ≤ 0) (hl : ∀ s, last up + 1 ≤ s → s < r → 0 < ht up s) : FlightAt up r := by
  refine ⟨h0, hr, fun s h1 h2 h3 => ?_⟩
  by_cases hs : s ≤ last up
  · have := ht_pos h h1 hs; omega
  · have := hl s (by omega) h2; omega
theorem flight_of_step {up r : Int} (h : 0 < ht up 1) (h0 : 1 ≤ r) (hr : ht up r ≤ 0) (hl : 0 < ht up (r - 1)) : FlightAt up r := by
  refine flight_of_search h h0 hr (fun s h1 h2 => ?_)
  have := ht_fall (up := up) (s := s) (t := r - 1) (by omega) h1; omega
theorem flight_one {up : Int} (h : ht up 1 ≤ 0) : FlightAt up 1 := ⟨by omega, h, fun s _ _ => by omega⟩
theorem flight_le {up r : Int} (h0 : 0 ≤ up) (h1 : up ≤ 200000) (h : FlightAt up r) : 1 ≤ r ∧ r ≤ 60000 := by
  refine ⟨h.1, ?_⟩
  rcases Int.lt_or_le 60000 r with h2 | h2
  · exact absurd (ht_end h0 h1) (h.2.2 60000 (by omega) h2)
  · exact h2
def drift (side wind t : Int) : Int := (side + wind) * t / 1000
theorem drift_mono {a b wind t : Int} (ht : 0 ≤ t) (h : a ≤ b) : drift a wind t ≤ drift b wind t :=
  Int.ediv_le_ediv (by omega) (Int.mul_le_mul_of_nonneg_right (by omega) ht)
theorem drift_mono_wind {side a b t : Int} (ht : 0 ≤ t) (h : a ≤ b) : drift side a t ≤ drift side b t :=
  Int.ediv_le_ediv (by omega) (Int.mul_le_mul_of_nonneg_right (by omega) ht)
theorem mul_bound {x t : Int} (hx : -100000 ≤ x) (hx' : x ≤ 100000) (h0 : 0 ≤ t) (h1 : t ≤ 60000) : -6000000000 ≤ x * t ∧ x * t ≤ 6000000000 := by
  have a := Int.mul_nonneg (show 0 ≤ x + 100000 by omega) h0
  have b := Int.mul_nonneg (show 0 ≤ 100000 - x by omega) h0
  rw [Int.add_mul] at a
  rw [Int.sub_mul] at b
  omega
def Found (wind t least most s : Int) : Prop := least ≤ drift s wind t ∧ drift s wind t ≤ most
def SideIs (wind t least most r code : Int) : Prop :=
  (code = 0 ∧ -50000 ≤ r ∧ r ≤ 50000 ∧ Found wind t least most r ∧ ∀ s, -50000 ≤ s → s ≤ 50000 → Found wind t least most s → (0 ≤ r ∧ r ≤ s) ∨ (s ≤ r ∧ r ≤ 0)) ∨
  (code = 4 ∧ r = 0 ∧ ∀ s, -50000 ≤ s → s ≤ 50000 → ¬ Found wind t least most s)
theorem side_uniq {wind t least most a c b d : Int} (h : SideIs wind t least most a c) (k : SideIs wind t least most b d) : a = b ∧ c = d := by
  rcases h with ⟨h1, h2, h3, h4, h5⟩ | ⟨h1, h2, h3⟩ <;> rcases k with ⟨k1, k2, k3, k4, k5⟩ | ⟨k1, k2, k3⟩
  · have := h5 b k2 k3 k4
    have := k5 a h2 h3 h4
    omega
  · exact absurd h4 (k3 a h2 h3)
  · exact absurd k4 (h3 b k2 k3)
  · omega

theorem height_wrap {up t : Int} (h0 : 0 ≤ up) (h1 : up ≤ 200001) (t0 : 0 ≤ t) (t1 : t ≤ 70000) : wrap64 ((wrap64 ((wrap64 (2000 * up)) * t)) - (wrap64 ((wrap64 (9810 * t)) * t))) = F up t ∧ -4611686018427387904 ≤ F up t ∧ F up t ≤ 4611686018427387904 := by
  have hb := F_bound h0 h1 t0 t1
  have e : F up t = 2000 * up * t - 9810 * t * t := rfl
  rw [w64 (n := 2000 * up) (by omega) (by omega), w64 (n := 9810 * t) (by omega) (by omega), w64 (n := 2000 * up * t) (by omega) (by omega), w64 (n := 9810 * t * t) (by omega) (by omega), w64 (by omega) (by omega)]
  omega
theorem heightAt_eq {up t : Int} (h0 : 0 ≤ up) (h1 : up ≤ 200001) (t0 : 0 ≤ t) (t1 : t ≤ 70000) : impl_heightAt.f up t = some (ht up t) := by
  obtain ⟨a, b, c⟩ := height_wrap h0 h1 t0 t1
  unfold impl_heightAt.f
  rw [a, floorDiv_eq (by omega) b c]; rfl
theorem l04Height_eq {up t : Int} (h0 : 0 ≤ up) (h1 : up ≤ 200001) (t0 : 0 ≤ t) (t1 : t ≤ 70000) : spec_l04Height.f up t = some (ht up t) := by
  obtain ⟨a, b, c⟩ := height_wrap h0 h1 t0 t1
  unfold spec_l04Height.f
  rw [a, floor_eq (by omega) b c]; rfl

/-! ### the top -/
theorem last_wrap {up : Int} (h0 : 0 ≤ up) (h1 : up ≤ 200000) : wrap64 (Int.tdiv (wrap64 (1000 * up)) 9810) = last up := by
  rw [w64 (n := 1000 * up) (by omega) (by omega), Int.tdiv_eq_ediv_of_nonneg (by omega), w64 (by omega) (by omega)]; rfl
theorem half_wrap {a b : Int} (h0 : 0 ≤ a) (h1 : a ≤ 1000000) (h2 : 0 ≤ b) (h3 : b ≤ 1000000) : wrap64 (Int.tdiv (wrap64 (a + b)) 2) = (a + b) / 2 := by
  rw [w64 (n := a + b) (by omega) (by omega), Int.tdiv_eq_ediv_of_nonneg (by omega), w64 (by omega) (by omega)]
theorem impl_topOf_l0 {up : Int} (h0 : 0 ≤ up) (h1 : up ≤ 200000) (T : Int) : ∀ (d : Nat) (lo hi : Int), hi - lo = d → 0 ≤ lo → lo ≤ hi → hi ≤ last up → T ≤ ht up hi → (∀ s, 0 ≤ s → s < lo → ht up s < T) →
    ∃ r, Ev (fun k => impl_topOf.l0 k up T lo hi) (r, T) ∧ Least (fun t => T ≤ ht up t) 0 r ∧ r ≤ last up := by
  intro d
  have hL := last_le h0 h1
  induction d using Nat.strongRecOn with
  | ind d ih =>
    intro lo hi hd a b c e f
    by_cases hlt : lo < hi
    · by_cases g : ht up ((lo + hi) / 2) ≥ T
      · obtain ⟨r, hr, h⟩ := ih ((lo + hi) / 2 - lo).toNat (by omega) lo ((lo + hi) / 2) (by omega) a (by omega) (by omega) g f
        refine ⟨r, Ev.step (fun k => impl_topOf.l0.eq_2 ..) (ev_pos hlt ?_), h⟩
        rw [half_wrap (by omega) (by omega) (by omega) (by omega)]
        exact ev_bind0 (heightAt_eq h0 (by omega) (by omega) (by omega)) (ev_pos g hr)
      · obtain ⟨r, hr, h⟩ := ih (hi - ((lo + hi) / 2 + 1)).toNat (by omega) ((lo + hi) / 2 + 1) hi (by omega) (by omega) (by omega) c e (fun s s0 s1 => by
          have := ht_rise (up := up) (s := s) (t := (lo + hi) / 2) (by omega) (by omega); omega)
        refine ⟨r, Ev.step (fun k => impl_topOf.l0.eq_2 ..) (ev_pos hlt ?_), h⟩
        rw [half_wrap (by omega) (by omega) (by omega) (by omega)]
        refine ev_bind0 (heightAt_eq h0 (by omega) (by omega) (by omega)) (ev_neg g ?_)
        rw [w64 (by omega) (by omega)]
        exact hr
    · obtain rfl : lo = hi := by omega
      exact ⟨lo, Ev.step (fun k => impl_topOf.l0.eq_2 ..) (ev_neg hlt (ev_ret rfl)), ⟨a, e, fun s s0 s1 => by have := f s s0 s1; omega⟩, c⟩
/-- The time of the top: the least at which the height is the top. -/
def TopIs (up r : Int) : Prop := TopAt up r ∧ r ≤ last up + 1
theorem impl_topOf_ev {up : Int} (h0 : 0 ≤ up) (h1 : up ≤ 200000) : ∃ r, Ev (fun k => impl_topOf.f k up) (r, top up) ∧ TopIs up r := by
  have hL := last_le h0 h1
  unfold impl_topOf.f
  rw [last_wrap h0 h1, w64 (n := last up + 1) (by omega) (by omega)]
  by_cases g : ht up (last up + 1) > ht up (last up)
  · have ht0 : top up = ht up (last up + 1) := by unfold top; omega
    refine ⟨last up + 1, ?_, ⟨⟨by omega, by omega, fun s s0 s1 => ?_⟩, by omega⟩⟩
    · refine ev_bind0 (heightAt_eq h0 (by omega) (by omega) (by omega)) (ev_bind0 (heightAt_eq h0 (by omega) (by omega) (by omega)) (ev_pos g (ev_ret ?_)))
      rw [ht0]
    · have := ht_rise (up := up) (s := s) (t := last up) (by omega) (by omega); omega
  · have ht0 : top up = ht up (last up) := by unfold top; omega
    obtain ⟨r, hr, h, h'⟩ := impl_topOf_l0 h0 h1 (top up) (last up - 0).toNat 0 (last up) (by omega) (by omega) (by omega) (by omega) (by omega) (fun s _ _ => by omega)
    refine ⟨r, ?_, ⟨h, by omega⟩⟩
    refine ev_bind0 (heightAt_eq h0 (by omega) (by omega) (by omega)) (ev_bind0 (heightAt_eq h0 (by omega) (by omega) (by omega)) (ev_neg g ?_))
    rw [← ht0]; exact hr
theorem spec_l04Top_l0 {up : Int} (h0 : 0 ≤ up) (h1 : up ≤ 200000) : ∀ (d : Nat) (t : Int), t = d → t ≤ last up → (ht up t < top up → t = last up ∧ top up = ht up (last up + 1)) →
    ∃ r, Ev (fun k => spec_l04Top.l0 k up t (top up)) (r, top up) ∧ TopIs up r := by
  intro d
  have hL := last_le h0 h1
  induction d with
  | zero =>
    intro t hd a b
    refine ⟨if ht up t < top up then t + 1 else t, Ev.step (fun k => spec_l04Top.l0.eq_2 ..) (ev_neg (by omega) ?_), ?_⟩
    · refine ev_bind0 (l04Height_eq h0 (by omega) (by omega) (by omega)) ?_
      by_cases g : ht up t < top up
      · refine ev_pos g (ev_ret ?_); rw [if_pos g, w64 (by omega) (by omega)]
      · refine ev_neg g (ev_ret ?_); rw [if_neg g]
    · by_cases g : ht up t < top up
      · obtain ⟨e, f⟩ := b g
        rw [if_pos g]
        refine ⟨⟨by omega, ?_, fun s s0 s1 => ?_⟩, by omega⟩
        · show top up ≤ ht up (t + 1); rw [e]; omega
        · obtain rfl : s = t := by omega
          omega
      · rw [if_neg g]
        exact ⟨⟨by omega, by omega, fun s _ _ => by omega⟩, by omega⟩
  | succ d ih =>
    intro t hd a b
    by_cases c : ht up (t - 1) = top up
    · obtain ⟨r, hr, h⟩ := ih (t - 1) (by omega) (by omega) (fun _ => by omega)
      refine ⟨r, Ev.step (fun k => spec_l04Top.l0.eq_2 ..) (ev_pos (by omega) ?_), h⟩
      rw [w64 (by omega) (by omega)]
      exact ev_bind0 (l04Height_eq h0 (by omega) (by omega) (by omega)) (ev_pos c hr)
    · have hm := top_max (up := up) (t := t - 1)
      have hr : ∀ s, 0 ≤ s → s < t → ht up s < top up := fun s _ _ => by
        have := ht_rise (up := up) (s := s) (t := t - 1) (by omega) (by omega); omega
      refine ⟨if ht up t < top up then t + 1 else t, Ev.step (fun k => spec_l04Top.l0.eq_2 ..) (ev_pos (by omega) ?_), ?_⟩
      · rw [w64 (n := t - 1) (by omega) (by omega)]
        refine ev_bind0 (l04Height_eq h0 (by omega) (by omega) (by omega)) (ev_neg c (ev_bind0 (l04Height_eq h0 (by omega) (by omega) (by omega)) ?_))
        by_cases g : ht up t < top up
        · refine ev_pos g (ev_ret ?_); rw [if_pos g, w64 (by omega) (by omega)]
        · refine ev_neg g (ev_ret ?_); rw [if_neg g]
      · by_cases g : ht up t < top up
        · obtain ⟨e, f⟩ := b g
          rw [if_pos g]
          refine ⟨⟨by omega, ?_, fun s s0 s1 => ?_⟩, by omega⟩
          · show top up ≤ ht up (t + 1); rw [e]; omega
          · rcases Int.lt_or_le s t with g' | g'
            · have := hr s s0 g'; omega
            · obtain rfl : s = t := by omega
              omega
        · rw [if_neg g]
          exact ⟨⟨by omega, by omega, fun s s0 s1 => by have := hr s s0 s1; omega⟩, by omega⟩
theorem mx_max (a b : Int) : mx a b = max a b := by unfold mx; omega
theorem spec_l04Top_ev {up : Int} (h0 : 0 ≤ up) (h1 : up ≤ 200000) : ∃ r, Ev (fun k => spec_l04Top.f k up) (r, top up) ∧ TopIs up r := by
  have hL := last_le h0 h1
  obtain ⟨r, hr, h⟩ := spec_l04Top_l0 h0 h1 (last up).toNat (last up) (by omega) (by omega) (fun g => ⟨rfl, by unfold top at g ⊢; omega⟩)
  refine ⟨r, ?_, h⟩
  unfold spec_l04Top.f
  rw [last_wrap h0 h1, w64 (n := last up + 1) (by omega) (by omega)]
  refine ev_bind0 (l04Height_eq h0 (by omega) (by omega) (by omega)) (ev_bind0 (l04Height_eq h0 (by omega) (by omega) (by omega)) ?_)
  rw [mx_max]; exact hr
/-- Both find the same. -/
theorem top_both {up : Int} (h0 : 0 ≤ up) (h1 : up ≤ 200000) : ∃ r, Ev (fun k => impl_topOf.f k up) (r, top up) ∧ Ev (fun k => spec_l04Top.f k up) (r, top up) ∧ TopIs up r := by
  obtain ⟨r, a, b⟩ := impl_topOf_ev h0 h1
  obtain ⟨r', a', b'⟩ := spec_l04Top_ev h0 h1
  obtain rfl := least_uniq b.1 b'.1
  exact ⟨r, a, a', b⟩

theorem top_bound {up : Int} (h0 : 0 ≤ up) (h1 : up ≤ 200000) : top up ≤ 30000000 := by
  have hL := last_le h0 h1
  have h2 := F_bound (up := up) (t := last up) h0 (by omega) (by omega) (by omega)
  have h3 := F_bound (up := up) (t := last up + 1) h0 (by omega) (by omega) (by omega)
  have e2 : ht up (last up) = (2000 * up * last up - 9810 * last up * last up) / 2000000 := rfl
  have e3 : ht up (last up + 1) = (2000 * up * (last up + 1) - 9810 * (last up + 1) * (last up + 1)) / 2000000 := rfl
  unfold top
  generalize ht up (last up) = x at *
  generalize ht up (last up + 1) = y at *
  generalize 2000 * up * last up = a at *
  generalize 9810 * last up * last up = b at *
  generalize 2000 * up * (last up + 1) = c at *
  generalize 9810 * (last up + 1) * (last up + 1) = d at *
  omega
theorem top_nonneg {up : Int} : 0 ≤ top up := by
  have := top_max (up := up) (t := 0)
  have e : ht up 0 = 0 := by unfold ht F; simp
  omega
/-- a number of at least 0, rounded up, both ways -/
theorem ceil_both {a b : Int} (ha : 0 ≤ a) (hb : 0 < b) : (a + b - 1) / b = -(-a / b) := by
  have h1 : b * (a / b) + a % b = a := Int.mul_ediv_add_emod a b
  have h2 := Int.emod_nonneg a (show b ≠ 0 by omega)
  have h3 := Int.emod_lt_of_pos a hb
  by_cases h : a % b = 0
  · have e1 : (a + b - 1) / b = a / b := by
      have : (a + b - 1) / b = a / b ∧ (a + b - 1) % b = b - 1 := by
        rw [Int.ediv_emod_unique hb]; omega
      exact this.1
    have e2 : -a / b = -(a / b) := by
      have : -a / b = -(a / b) ∧ -a % b = 0 := by
        rw [Int.ediv_emod_unique hb, Int.mul_neg]; omega
      exact this.1
    omega
  · have e1 : (a + b - 1) / b = a / b + 1 := by
      have : (a + b - 1) / b = a / b + 1 ∧ (a + b - 1) % b = a % b - 1 := by
        rw [Int.ediv_emod_unique hb, Int.mul_add]; omega
      exact this.1
    have e2 : -a / b = -(a / b) - 1 := by
      have : -a / b = -(a / b) - 1 ∧ -a % b = b - a % b := by
        rw [Int.ediv_emod_unique hb, Int.mul_sub, Int.mul_neg]; omega
      exact this.1
    omega
theorem ceilDiv_eq {a b : Int} (ha : 0 ≤ a) (ha' : a ≤ 1000000000000) (hb : 0 < b) (hb' : b ≤ 10000) : impl_ceilDiv.f a b = some (-(-a / b)) := by
  have h1 := ediv_small (a := a + b - 1) hb (by omega) (by omega)
  unfold impl_ceilDiv.f
  rw [if_neg (by omega), w64 (n := a + b) (by omega) (by omega), w64 (n := a + b - 1) (by omega) (by omega), Int.tdiv_eq_ediv_of_nonneg (by omega), w64 (by omega) (by omega), ceil_both ha hb]
theorem l01Ceil_eq {a b : Int} (ha : 0 ≤ a) (ha' : a ≤ 1000000000000) (hb : 0 < b) (hb' : b ≤ 10000) : spec_l01Ceil.f a b = some (-(-a / b)) := by
  have h1 := ediv_small (a := -a) hb (by omega) (by omega)
  unfold spec_l01Ceil.f
  rw [w64 (n := -a) (by omega) (by omega), floor_eq hb (by omega) (by omega), Option.bind_some, w64 (by omega) (by omega)]
theorem l06Code_ev (a b c d : Int) : Ev (fun k => spec_l06Code.f k [(⟨a, b, c, d⟩ : S25)] 0 0) (if (0 ≤ a ∧ a ≤ 200000) ∧ (-50000 ≤ b ∧ b ≤ 50000) ∧ (100 ≤ c ∧ c ≤ 10000) ∧ (0 ≤ d ∧ d ≤ 200000) then 0 else 1) := by
  unfold spec_l06Code.f
  have e : rd_T25 [(⟨a, b, c, d⟩ : S25)] 0 = ⟨a, b, c, d⟩ := rfl
  refine Ev.step (fun k => spec_l06Code.l0.eq_2 ..) (ev_pos (by simp) (ev_pos (by omega) ?_))
  rw [e]
  refine ev_bind0 (spec_IsShot_eq ..) ?_
  by_cases h : (0 ≤ a ∧ a ≤ 200000) ∧ (-50000 ≤ b ∧ b ≤ 50000) ∧ (100 ≤ c ∧ c ≤ 10000) ∧ (0 ≤ d ∧ d ≤ 200000)
  · refine ev_pos (by simpa using h) ?_
    rw [w64 (by omega) (by omega), if_pos h]
    refine Ev.step (fun k => spec_l06Code.l0.eq_2 ..) (ev_neg (by simp) (ev_neg (by simp) ?_))
    refine ev_bind0 (b := true) ?_ (ev_pos rfl (Ev.now _))
    unfold spec_l06Winds.f
    simp only [in_eq, Option.bind_some]
    decide
  · rw [if_neg h]
    exact ev_neg (by simpa using h) (Ev.now _)
theorem pure (a b c d : Int) : ∃ k, laws_FnExactDebrisTime.f k a b c d = some true := by
  apply Ev.rounds
  unfold laws_FnExactDebrisTime.f laws_toShot.f
  simp only [Option.bind_some]
  by_cases h : (0 ≤ a ∧ a ≤ 200000) ∧ (-50000 ≤ b ∧ b ≤ 50000) ∧ (100 ≤ c ∧ c ≤ 10000) ∧ (0 ≤ d ∧ d ≤ 200000)
  · obtain ⟨r, x, y, _⟩ := top_both h.1.1 h.1.2
    have tb := top_bound h.1.1 h.1.2
    have tn := top_nonneg (up := a)
    have hs : Ev (fun k => spec_DebrisTime.f k a b c d) (-(-(1000 * top a) / c), 0) := by
      unfold spec_DebrisTime.f spec_l06Time.f
      have hc := l06Code_ev a b c d
      rw [if_pos h] at hc
      refine hc.bind (ev_pos rfl ?_)
      refine Ev.bind (a := -(-(1000 * top a) / c)) ?_ (Ev.now _)
      refine y.bind ?_
      rw [w64 (by omega) (by omega)]
      exact ev_bind0 (l01Ceil_eq (by omega) (by omega) (by omega) (by omega)) (Ev.now _)
    have hi : Ev (fun k => impl_DebrisTime.f k a b c d) (-(-(1000 * top a) / c), 0) := by
      unfold impl_DebrisTime.f impl_debrisTime.f
      refine ev_bind0 (impl_IsShot_eq ..) (ev_pos (by simpa using h) ?_)
      refine Ev.bind (a := -(-(1000 * top a) / c)) ?_ (Ev.now _)
      refine x.bind ?_
      rw [w64 (by omega) (by omega)]
      exact ev_bind0 (ceilDiv_eq (by omega) (by omega) (by omega) (by omega)) (Ev.now _)
    refine hs.bind (hi.bind ?_)
    simp only [if_true]
    exact Ev.now _
  · have hs : Ev (fun k => spec_DebrisTime.f k a b c d) (0, 1) := by
      unfold spec_DebrisTime.f
      have hc := l06Code_ev a b c d
      rw [if_neg h] at hc
      exact hc.bind (ev_neg (by decide) (Ev.now _))
    have hi : Ev (fun k => impl_DebrisTime.f k a b c d) (0, 1) := by
      unfold impl_DebrisTime.f
      exact ev_bind0 (impl_IsShot_eq ..) (ev_neg (by simpa using h) (Ev.now _))
    refine hs.bind (hi.bind ?_)
    simp only [if_true]
    exact Ev.now _
theorem walk (a b c d : Int) (_ : (Lit.int .i64 a).wf = true) (_ : (Lit.int .i64 b).wf = true) (_ : (Lit.int .i64 c).wf = true) (_ : (Lit.int .i64 d).wf = true) (W : World) :
    Calls Try.prog 11 #[.agg #[.int .i64 a, .int .i64 b, .int .i64 c, .int .i64 d]] W fun e w' => e = .returned (.bool true) ∧ Below W.heap.size W w' := by
  obtain ⟨k, h⟩ := pure a b c d
  exact laws_FnExactDebrisTime.calls k a b c d true W h

end Go.Proofs.Ytkedlfedjbgbiaa.GoFnExactDebrisTime
