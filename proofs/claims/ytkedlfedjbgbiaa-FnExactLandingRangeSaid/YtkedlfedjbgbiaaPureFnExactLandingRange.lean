/- LandingRange answers what the reference's answers, for all arguments; no condition. -/
import Derived.Test.YtkedlfedjbgbiaaMa
import Derived.Test.YtkedlfedjbgbiaaPFnExactLandingRangex
namespace Go.Proofs.Ytkedlfedjbgbiaa.PureFnExactLandingRange
open Go.RowKit Go.Proofs.Ytkedlfedjbgbiaa.PFnExactLandingRange Go.Proofs.YtkedlfedjbgbiaaW.PrintWords Go.Proofs.YtkedlfedjbgbiaaW.PrintLast Go.Proofs.Ytkedlfedjbgbiaa.Ma

/-! flights -/
def F (up t : Int) : Int := 2000 * up * t - 9810 * t * t
def ht (up t : Int) : Int := F up t / 2000000
theorem F_diff (up s t : Int) : F up t - F up s = (t - s) * (2000 * up - 9810 * (s + t)) := by unfold F; grind
theorem F_rise {up s t : Int} (hst : s ≤ t) (h : 9810 * (s + t) ≤ 2000 * up) : F up s ≤ F up t := by
  have := F_diff up s t
  have h2 : 0 ≤ (t - s) * (2000 * up - 9810 * (s + t)) := Int.mul_nonneg (by omega) (by omega)
  omega
theorem F_fall {up s t : Int} (hst : s ≤ t) (h : 2000 * up ≤ 9810 * (s + t)) : F up t ≤ F up s := by
  have := F_diff up s t
  have h2 : 0 ≤ (t - s) * (9810 * (s + t) - 2000 * up) := Int.mul_nonneg (by omega) (by omega)
  have h3 : (t - s) * (9810 * (s + t) - 2000 * up) = -((t - s) * (2000 * up - 9810 * (s + t))) := by grind
  omega
theorem ht_mono {up s t : Int} (h : F up s ≤ F up t) : ht up s ≤ ht up t := Int.ediv_le_ediv (by omega) h
def last (up : Int) : Int := 1000 * up / 9810
theorem last_b (up : Int) : 9810 * last up ≤ 1000 * up ∧ 1000 * up < 9810 * (last up + 1) := by unfold last; omega
theorem ht_rise {up s t : Int} (hst : s ≤ t) (h : t ≤ last up) : ht up s ≤ ht up t := by
  have := last_b up
  exact ht_mono (F_rise hst (by omega))
theorem ht_fall {up s t : Int} (hst : s ≤ t) (h : last up + 1 ≤ s) : ht up t ≤ ht up s := by
  have := last_b up
  exact ht_mono (F_fall hst (by omega))
/-- the least from lo on -/
def Least (p : Int → Prop) (lo r : Int) : Prop := lo ≤ r ∧ p r ∧ ∀ s, lo ≤ s → s < r → ¬ p s
theorem least_uniq {p : Int → Prop} {lo a b : Int} (ha : Least p lo a) (hb : Least p lo b) : a = b := by
  obtain ⟨h1, h2, h3⟩ := ha
  obtain ⟨k1, k2, k3⟩ := hb
  rcases Int.lt_trichotomy a b with h | h | h
  · exact absurd h2 (k3 a h1 h)
  · exact h
  · exact absurd k2 (h3 b k1 h)
def top (up : Int) : Int := max (ht up (last up)) (ht up (last up + 1))
/-- nothing is higher than the top -/
theorem top_max {up t : Int} : ht up t ≤ top up := by
  unfold top
  by_cases h : t ≤ last up
  · have := ht_rise h (Int.le_refl _); omega
  · have := ht_fall (up := up) (s := last up + 1) (t := t) (by omega) (by omega); omega
def TopAt (up r : Int) : Prop := Least (fun t => top up ≤ ht up t) 0 r
theorem F_up {u v t : Int} (ht : 0 ≤ t) (h : u ≤ v) : F u t ≤ F v t := by
  have : F v t - F u t = 2000 * ((v - u) * t) := by unfold F; grind
  have := Int.mul_nonneg (show 0 ≤ v - u by omega) ht
  omega
theorem top_up {u v : Int} (hu : 0 ≤ u) (h : u ≤ v) : top u ≤ top v := by
  have h0 : 0 ≤ last u := by unfold last; omega
  have h1 : ht u (last u) ≤ ht v (last u) := Int.ediv_le_ediv (by omega) (F_up h0 h)
  have h2 : ht u (last u + 1) ≤ ht v (last u + 1) := Int.ediv_le_ediv (by omega) (F_up (by omega) h)
  have h4 := top_max (up := v) (t := last u)
  have h5 := top_max (up := v) (t := last u + 1)
  have h3 : top u = max (ht u (last u)) (ht u (last u + 1)) := rfl
  omega
/-- bounds: what the program computes fits in its numbers -/
theorem F_bound {up t : Int} (h0 : 0 ≤ up) (h1 : up ≤ 200001) (t0 : 0 ≤ t) (t1 : t ≤ 70000) : 0 ≤ 2000 * up * t ∧ 2000 * up * t ≤ 28001000000000 ∧ 0 ≤ 9810 * t ∧ 9810 * t ≤ 686700000 ∧ 0 ≤ 9810 * t * t ∧ 9810 * t * t ≤ 48069000000000 := by
  have a := Int.mul_nonneg (show 0 ≤ 2000 * up by omega) t0
  have b := Int.mul_le_mul (show 2000 * up ≤ 400002000 by omega) t1 t0 (by omega)
  have c := Int.mul_nonneg (show 0 ≤ 9810 * t by omega) t0
  have d := Int.mul_le_mul (show 9810 * t ≤ 686700000 by omega) t1 t0 (by omega)
  omega
/-! flight and drift -/
def FlightAt (up r : Int) : Prop := Least (fun t => ht up t ≤ 0) 1 r
theorem ht_end {up : Int} (h0 : 0 ≤ up) (h1 : up ≤ 200000) : ht up 60000 ≤ 0 := by
  unfold ht F; omega
theorem last_le {up : Int} (h0 : 0 ≤ up) (h1 : up ≤ 200000) : 0 ≤ last up ∧ last up ≤ 20387 := by unfold last; omega
/-- where the first millisecond is in the air: all up to the last rise is -/
theorem ht_pos {up s : Int} (h : 0 < ht up 1) (h1 : 1 ≤ s) (h2 : s ≤ last up) : 0 < ht up s := by
  have := ht_rise h1 h2; omega
/-- so the flight is found behind the last rise -/
theorem flight_of_search {up r : Int} (h : 0 < ht up 1) (h0 : 1 ≤ r) (hr : ht up r ≤ 0) (hl : ∀ s, last up + 1 ≤ s → s < r → 0 < ht up s) : FlightAt up r := by
  refine ⟨h0, hr, fun s h1 h2 h3 => ?_⟩
  by_cases hs : s ≤ last up
  · have := ht_pos h h1 hs; omega
  · have := hl s (by omega) h2; omega
theorem flight_of_step {up r : Int} (h : 0 < ht up 1) (h0 : 1 ≤ r) (hr : ht up r ≤ 0) (hl : 0 < ht up (r - 1)) : FlightAt up r := by
  refine flight_of_search h h0 hr (fun s h1 h2 => ?_)
  have := ht_fall (up := up) (s := s) (t := r - 1) (by omega) h1; omega
theorem flight_one {up : Int} (h : ht up 1 ≤ 0) : FlightAt up 1 := ⟨by omega, h, fun s _ _ => by omega⟩
theorem flight_le {up r : Int} (h0 : 0 ≤ up) (h1 : up ≤ 200000) (h : FlightAt up r) : 1 ≤ r ∧ r ≤ 60000 := by
  refine ⟨h.1, ?_⟩
  rcases Int.lt_or_le 60000 r with h2 | h2
  · exact absurd (ht_end h0 h1) (h.2.2 60000 (by omega) h2)
  · exact h2
def drift (side wind t : Int) : Int := (side + wind) * t / 1000
theorem drift_mono {a b wind t : Int} (ht : 0 ≤ t) (h : a ≤ b) : drift a wind t ≤ drift b wind t :=
  Int.ediv_le_ediv (by omega) (Int.mul_le_mul_of_nonneg_right (by omega) ht)
theorem drift_mono_wind {side a b t : Int} (ht : 0 ≤ t) (h : a ≤ b) : drift side a t ≤ drift side b t :=
  Int.ediv_le_ediv (by omega) (Int.mul_le_mul_of_nonneg_right (by omega) ht)
theorem mul_bound {x t : Int} (hx : -100000 ≤ x) (hx' : x ≤ 100000) (h0 : 0 ≤ t) (h1 : t ≤ 60000) : -6000000000 ≤ x * t ∧ x * t ≤ 6000000000 := by
  have a := Int.mul_nonneg (show 0 ≤ x + 100000 by omega) h0
  have b := Int.mul_nonneg (show 0 ≤ 100000 - x by omega) h0
  rw [Int.add_mul] at a
  rw [Int.sub_mul] at b
  omega
def Found (wind t least most s : Int) : Prop := least ≤ drift s wind t ∧ drift s wind t ≤ most
def SideIs (wind t least most r code : Int) : Prop :=
  (code = 0 ∧ -50000 ≤ r ∧ r ≤ 50000 ∧ Found wind t least most r ∧ ∀ s, -50000 ≤ s → s ≤ 50000 → Found wind t least most s → (0 ≤ r ∧ r ≤ s) ∨ (s ≤ r ∧ r ≤ 0)) ∨
  (code = 4 ∧ r = 0 ∧ ∀ s, -50000 ≤ s → s ≤ 50000 → ¬ Found wind t least most s)
theorem side_uniq {wind t least most a c b d : Int} (h : SideIs wind t least most a c) (k : SideIs wind t least most b d) : a = b ∧ c = d := by
  rcases h with ⟨h1, h2, h3, h4, h5⟩ | ⟨h1, h2, h3⟩ <;> rcases k with ⟨k1, k2, k3, k4, k5⟩ | ⟨k1, k2, k3⟩
  · have := h5 b k2 k3 k4
    have := k5 a h2 h3 h4
    omega
  · exact absurd h4 (k3 a h2 h3)
  · exact absurd k4 (h3 b k2 k3)
  · omega

/-! ### division, ranges -/
theorem in_eq (a b c : Int) : spec_l01In.f a b c = some (decide (b ≤ a ∧ a ≤ c)) := by
  unfold spec_l01In.f
  by_cases h : b ≤ a <;> simp [h]
theorem within_eq (a b c : Int) : impl_within.f a b c = some (decide (b ≤ a ∧ a ≤ c)) := by
  unfold impl_within.f
  by_cases h : b ≤ a <;> simp [h]
theorem tdiv_floor {a b : Int} (hb : 0 < b) : (Int.tmod a b < 0 → Int.tdiv a b - 1 = a / b) ∧ (¬ Int.tmod a b < 0 → Int.tdiv a b = a / b) := by
  have h1 := Int.tdiv_eq_ediv (a := a) (b := b)
  have h2 := Int.tmod_eq_emod (a := a) (b := b)
  have h3 := Int.emod_nonneg a (show b ≠ 0 by omega)
  have h4 := Int.emod_lt_of_pos a hb
  by_cases h : 0 ≤ a ∨ b ∣ a
  · rw [if_pos h] at h1 h2
    omega
  · rw [if_neg h] at h1 h2
    rw [Int.sign_eq_one_of_pos hb] at h1
    omega
theorem ediv_small {a b : Int} (hb : 0 < b) (h : -4611686018427387904 ≤ a) (h' : a ≤ 4611686018427387904) : -4611686018427387904 ≤ a / b ∧ a / b ≤ 4611686018427387904 := by
  have h1 : -4611686018427387904 * b ≤ a := by
    have := Int.mul_le_mul_of_nonneg_left (show 1 ≤ b by omega) (show (0 : Int) ≤ 4611686018427387904 by omega); omega
  have h2 : a < (4611686018427387904 + 1) * b := by
    have := Int.mul_le_mul_of_nonneg_left (show 1 ≤ b by omega) (show (0 : Int) ≤ 4611686018427387905 by omega); omega
  have h3 := (Int.le_ediv_iff_mul_le hb).2 h1
  have h4 := (Int.ediv_lt_iff_lt_mul hb).2 h2
  omega
theorem floorDiv_eq {a b : Int} (hb : 0 < b) (h : -4611686018427387904 ≤ a) (h' : a ≤ 4611686018427387904) : impl_floorDiv.f a b = some (a / b) := by
  have h1 := tdiv_floor (a := a) hb
  have h2 := ediv_small hb h h'
  unfold impl_floorDiv.f
  rw [if_neg (by omega)]
  by_cases c : Int.tmod a b < 0
  · have := h1.1 c
    rw [if_pos c, w64 (n := Int.tdiv a b) (by omega) (by omega), w64 (by omega) (by omega), this]
  · have := h1.2 c
    rw [if_neg c, w64 (by omega) (by omega), this]
theorem floor_eq {a b : Int} (hb : 0 < b) (h : -4611686018427387904 ≤ a) (h' : a ≤ 4611686018427387904) : spec_l01Floor.f a b = some (a / b) := by
  have h1 := tdiv_floor (a := a) hb
  have h2 := ediv_small hb h h'
  unfold spec_l01Floor.f
  rw [if_neg (by omega), if_neg (by omega)]
  by_cases c : Int.tmod a b < 0
  · have := h1.1 c
    rw [if_pos c, w64 (n := Int.tdiv a b) (by omega) (by omega), w64 (by omega) (by omega), this]
  · have := h1.2 c
    rw [if_neg c, w64 (by omega) (by omega), this]

theorem height_wrap {up t : Int} (h0 : 0 ≤ up) (h1 : up ≤ 200001) (t0 : 0 ≤ t) (t1 : t ≤ 70000) : wrap64 ((wrap64 ((wrap64 (2000 * up)) * t)) - (wrap64 ((wrap64 (9810 * t)) * t))) = F up t ∧ -4611686018427387904 ≤ F up t ∧ F up t ≤ 4611686018427387904 := by
  have hb := F_bound h0 h1 t0 t1
  have e : F up t = 2000 * up * t - 9810 * t * t := rfl
  rw [w64 (n := 2000 * up) (by omega) (by omega), w64 (n := 9810 * t) (by omega) (by omega), w64 (n := 2000 * up * t) (by omega) (by omega), w64 (n := 9810 * t * t) (by omega) (by omega), w64 (by omega) (by omega)]
  omega
theorem heightAt_eq {up t : Int} (h0 : 0 ≤ up) (h1 : up ≤ 200001) (t0 : 0 ≤ t) (t1 : t ≤ 70000) : impl_heightAt.f up t = some (ht up t) := by
  obtain ⟨a, b, c⟩ := height_wrap h0 h1 t0 t1
  unfold impl_heightAt.f
  rw [a, floorDiv_eq (by omega) b c]; rfl
theorem l04Height_eq {up t : Int} (h0 : 0 ≤ up) (h1 : up ≤ 200001) (t0 : 0 ≤ t) (t1 : t ≤ 70000) : spec_l04Height.f up t = some (ht up t) := by
  obtain ⟨a, b, c⟩ := height_wrap h0 h1 t0 t1
  unfold spec_l04Height.f
  rw [a, floor_eq (by omega) b c]; rfl

/-! ### the top -/
theorem last_wrap {up : Int} (h0 : 0 ≤ up) (h1 : up ≤ 200000) : wrap64 (Int.tdiv (wrap64 (1000 * up)) 9810) = last up := by
  rw [w64 (n := 1000 * up) (by omega) (by omega), Int.tdiv_eq_ediv_of_nonneg (by omega), w64 (by omega) (by omega)]; rfl
theorem half_wrap {a b : Int} (h0 : 0 ≤ a) (h1 : a ≤ 1000000) (h2 : 0 ≤ b) (h3 : b ≤ 1000000) : wrap64 (Int.tdiv (wrap64 (a + b)) 2) = (a + b) / 2 := by
  rw [w64 (n := a + b) (by omega) (by omega), Int.tdiv_eq_ediv_of_nonneg (by omega), w64 (by omega) (by omega)]
/-- The time of the top: the least at which the height is the top. -/
def TopIs (up r : Int) : Prop := TopAt up r ∧ r ≤ last up + 1
theorem spec_l04Top_l0 {up : Int} (h0 : 0 ≤ up) (h1 : up ≤ 200000) : ∀ (d : Nat) (t : Int), t = d → t ≤ last up → (ht up t < top up → t = last up ∧ top up = ht up (last up + 1)) →
    ∃ r, Ev (fun k => spec_l04Top.l0 k up t (top up)) (r, top up) ∧ TopIs up r := by
  intro d
  have hL := last_le h0 h1
  induction d with
  | zero =>
    intro t hd a b
    refine ⟨if ht up t < top up then t + 1 else t, Ev.step (fun k => spec_l04Top.l0.eq_2 ..) (ev_neg (by omega) ?_), ?_⟩
    · refine ev_bind0 (l04Height_eq h0 (by omega) (by omega) (by omega)) ?_
      by_cases g : ht up t < top up
      · refine ev_pos g (ev_ret ?_); rw [if_pos g, w64 (by omega) (by omega)]
      · refine ev_neg g (ev_ret ?_); rw [if_neg g]
    · by_cases g : ht up t < top up
      · obtain ⟨e, f⟩ := b g
        rw [if_pos g]
        refine ⟨⟨by omega, ?_, fun s s0 s1 => ?_⟩, by omega⟩
        · show top up ≤ ht up (t + 1); rw [e]; omega
        · obtain rfl : s = t := by omega
          omega
      · rw [if_neg g]
        exact ⟨⟨by omega, by omega, fun s _ _ => by omega⟩, by omega⟩
  | succ d ih =>
    intro t hd a b
    by_cases c : ht up (t - 1) = top up
    · obtain ⟨r, hr, h⟩ := ih (t - 1) (by omega) (by omega) (fun _ => by omega)
      refine ⟨r, Ev.step (fun k => spec_l04Top.l0.eq_2 ..) (ev_pos (by omega) ?_), h⟩
      rw [w64 (by omega) (by omega)]
      exact ev_bind0 (l04Height_eq h0 (by omega) (by omega) (by omega)) (ev_pos c hr)
    · have hm := top_max (up := up) (t := t - 1)
      have hr : ∀ s, 0 ≤ s → s < t → ht up s < top up := fun s _ _ => by
        have := ht_rise (up := up) (s := s) (t := t - 1) (by omega) (by omega); omega
      refine ⟨if ht up t < top up then t + 1 else t, Ev.step (fun k => spec_l04Top.l0.eq_2 ..) (ev_pos (by omega) ?_), ?_⟩
      · rw [w64 (n := t - 1) (by omega) (by omega)]
        refine ev_bind0 (l04Height_eq h0 (by omega) (by omega) (by omega)) (ev_neg c (ev_bind0 (l04Height_eq h0 (by omega) (by omega) (by omega)) ?_))
        by_cases g : ht up t < top up
        · refine ev_pos g (ev_ret ?_); rw [if_pos g, w64 (by omega) (by omega)]
        · refine ev_neg g (ev_ret ?_); rw [if_neg g]
      · by_cases g : ht up t < top up
        · obtain ⟨e, f⟩ := b g
          rw [if_pos g]
          refine ⟨⟨by omega, ?_, fun s s0 s1 => ?_⟩, by omega⟩
          · show top up ≤ ht up (t + 1); rw [e]; omega
          · rcases Int.lt_or_le s t with g' | g'
            · have := hr s s0 g'; omega
            · obtain rfl : s = t := by omega
              omega
        · rw [if_neg g]
          exact ⟨⟨by omega, by omega, fun s s0 s1 => by have := hr s s0 s1; omega⟩, by omega⟩
theorem mx_max (a b : Int) : mx a b = max a b := by unfold mx; omega
theorem spec_l04Top_ev {up : Int} (h0 : 0 ≤ up) (h1 : up ≤ 200000) : ∃ r, Ev (fun k => spec_l04Top.f k up) (r, top up) ∧ TopIs up r := by
  have hL := last_le h0 h1
  obtain ⟨r, hr, h⟩ := spec_l04Top_l0 h0 h1 (last up).toNat (last up) (by omega) (by omega) (fun g => ⟨rfl, by unfold top at g ⊢; omega⟩)
  refine ⟨r, ?_, h⟩
  unfold spec_l04Top.f
  rw [last_wrap h0 h1, w64 (n := last up + 1) (by omega) (by omega)]
  refine ev_bind0 (l04Height_eq h0 (by omega) (by omega) (by omega)) (ev_bind0 (l04Height_eq h0 (by omega) (by omega) (by omega)) ?_)
  rw [mx_max]; exact hr
theorem impl_flightOf_l0 {up : Int} (h0 : 0 ≤ up) (h1 : up ≤ 200000) : ∀ (d : Nat) (lo hi : Int), hi - lo = d → last up + 1 ≤ lo → lo ≤ hi → hi ≤ 60000 → ht up hi ≤ 0 → (∀ s, last up + 1 ≤ s → s < lo → 0 < ht up s) →
    ∃ r, Ev (fun k => impl_flightOf.l0 k up lo hi) r ∧ last up + 1 ≤ r ∧ ht up r ≤ 0 ∧ ∀ s, last up + 1 ≤ s → s < r → 0 < ht up s := by
  intro d
  have hL := last_le h0 h1
  induction d using Nat.strongRecOn with
  | ind d ih =>
    intro lo hi hd a b c e f
    by_cases hlt : lo < hi
    · by_cases g : ht up ((lo + hi) / 2) ≤ 0
      · obtain ⟨r, hr, h⟩ := ih ((lo + hi) / 2 - lo).toNat (by omega) lo ((lo + hi) / 2) (by omega) a (by omega) (by omega) g f
        refine ⟨r, Ev.step (fun k => impl_flightOf.l0.eq_2 ..) (ev_pos hlt ?_), h⟩
        rw [half_wrap (by omega) (by omega) (by omega) (by omega)]
        exact ev_bind0 (heightAt_eq h0 (by omega) (by omega) (by omega)) (ev_pos g hr)
      · obtain ⟨r, hr, h⟩ := ih (hi - ((lo + hi) / 2 + 1)).toNat (by omega) ((lo + hi) / 2 + 1) hi (by omega) (by omega) (by omega) c e (fun s s0 s1 => by
          have := ht_fall (up := up) (s := s) (t := (lo + hi) / 2) (by omega) (by omega); omega)
        refine ⟨r, Ev.step (fun k => impl_flightOf.l0.eq_2 ..) (ev_pos hlt ?_), h⟩
        rw [half_wrap (by omega) (by omega) (by omega) (by omega)]
        refine ev_bind0 (heightAt_eq h0 (by omega) (by omega) (by omega)) (ev_neg g ?_)
        rw [w64 (by omega) (by omega)]
        exact hr
    · obtain rfl : lo = hi := by omega
      exact ⟨lo, Ev.step (fun k => impl_flightOf.l0.eq_2 ..) (ev_neg hlt (ev_ret rfl)), a, e, f⟩
theorem impl_flightOf_ev {up : Int} (h0 : 0 ≤ up) (h1 : up ≤ 200000) : ∃ r, Ev (fun k => impl_flightOf.f k up) r ∧ FlightAt up r := by
  have hL := last_le h0 h1
  unfold impl_flightOf.f
  by_cases g : ht up 1 ≤ 0
  · exact ⟨1, ev_bind0 (heightAt_eq h0 (by omega) (by omega) (by omega)) (ev_pos g (ev_ret rfl)), flight_one g⟩
  · obtain ⟨r, hr, a, b, c⟩ := impl_flightOf_l0 h0 h1 (60000 - (last up + 1)).toNat (last up + 1) 60000 (by omega) (by omega) (by omega) (by omega) (ht_end h0 h1) (fun s _ _ => by omega)
    refine ⟨r, ev_bind0 (heightAt_eq h0 (by omega) (by omega) (by omega)) (ev_neg g ?_), flight_of_search (by omega) (by omega) b c⟩
    rw [last_wrap h0 h1, w64 (by omega) (by omega)]
    exact hr
/-- the last look at the first two milliseconds -/
theorem spec_l04Flight_l2 {up : Int} (h0 : 0 ≤ up) (h1 : up ≤ 200000) {hi : Int} (a : 1 ≤ hi) (b : hi ≤ 60000) (c : ht up 1 ≤ 0 ∨ (0 < ht up 1 ∧ FlightAt up hi)) : ∃ r, Ev (fun k => spec_l04Flight.l2 k up hi 1) r ∧ FlightAt up r := by
  by_cases g : 1 < hi
  · rcases c with c | ⟨c, h⟩
    · refine ⟨1, Ev.step (fun k => spec_l04Flight.l2.eq_2 ..) (ev_pos g (Ev.step (fun k => spec_l04Flight.j4.eq_2 ..) (ev_pos (by simp) ?_))), flight_one c⟩
      exact ev_bind0 (l04Height_eq h0 (by omega) (by omega) (by omega)) (ev_pos c (ev_ret rfl))
    · refine ⟨hi, Ev.step (fun k => spec_l04Flight.l2.eq_2 ..) (ev_pos g (Ev.step (fun k => spec_l04Flight.j4.eq_2 ..) (ev_pos (by simp) ?_))), h⟩
      refine ev_bind0 (l04Height_eq h0 (by omega) (by omega) (by omega)) (ev_neg (by omega) ?_)
      rw [w64 (by omega) (by omega)]
      by_cases g2 : (1 + 1 : Int) < hi
      · refine Ev.step (fun k => spec_l04Flight.l2.eq_2 ..) (ev_pos g2 (Ev.step (fun k => spec_l04Flight.j4.eq_2 ..) (ev_pos (by simp) ?_)))
        have h2 := h.2.2 2 (by omega) (by omega)
        refine ev_bind0 (l04Height_eq h0 (by omega) (by omega) (by omega)) (ev_neg h2 ?_)
        rw [w64 (by omega) (by omega)]
        by_cases g3 : (1 + 1 + 1 : Int) < hi
        · exact Ev.step (fun k => spec_l04Flight.l2.eq_2 ..) (ev_pos g3 (Ev.step (fun k => spec_l04Flight.j4.eq_2 ..) (ev_neg (by simp) (ev_ret rfl))))
        · exact Ev.step (fun k => spec_l04Flight.l2.eq_2 ..) (ev_neg g3 (Ev.step (fun k => spec_l04Flight.j4.eq_2 ..) (ev_neg (by simp) (ev_ret rfl))))
      · exact Ev.step (fun k => spec_l04Flight.l2.eq_2 ..) (ev_neg g2 (Ev.step (fun k => spec_l04Flight.j4.eq_2 ..) (ev_neg (by simp) (ev_ret rfl))))
  · refine ⟨hi, Ev.step (fun k => spec_l04Flight.l2.eq_2 ..) (ev_neg g (Ev.step (fun k => spec_l04Flight.j4.eq_2 ..) (ev_neg (by simp) (ev_ret rfl)))), ?_⟩
    obtain rfl : hi = 1 := by omega
    rcases c with c | ⟨_, h⟩
    · exact flight_one c
    · exact h
theorem spec_l04Flight_l1 {up : Int} (h0 : 0 ≤ up) (h1 : up ≤ 200000) : ∀ (d : Nat) (hi : Int), hi = d + 1 → hi ≤ 60000 → (ht up 1 ≤ 0 ∨ (0 < ht up 1 ∧ FlightAt up hi)) → ∃ r, Ev (fun k => spec_l04Flight.l1 k up hi) r ∧ FlightAt up r := by
  intro d
  induction d with
  | zero =>
    intro hi hd a c
    obtain ⟨r, hr, h⟩ := spec_l04Flight_l2 h0 h1 (by omega) a c
    exact ⟨r, Ev.step (fun k => spec_l04Flight.l1.eq_2 ..) (ev_neg (by omega) (Ev.step (fun k => spec_l04Flight.j2.eq_2 ..) hr)), h⟩
  | succ d ih =>
    intro hi hd a c
    by_cases g : ht up (hi - 1) ≤ 0
    · have c' : ht up 1 ≤ 0 := by
        rcases c with c | ⟨_, h⟩
        · exact c
        · exact absurd g (h.2.2 (hi - 1) (by omega) (by omega))
      obtain ⟨r, hr, h⟩ := ih (hi - 1) (by omega) (by omega) (.inl c')
      refine ⟨r, Ev.step (fun k => spec_l04Flight.l1.eq_2 ..) (ev_pos (by omega) ?_), h⟩
      rw [w64 (by omega) (by omega)]
      exact ev_bind0 (l04Height_eq h0 (by omega) (by omega) (by omega)) (ev_pos g hr)
    · obtain ⟨r, hr, h⟩ := spec_l04Flight_l2 h0 h1 (by omega) a c
      refine ⟨r, Ev.step (fun k => spec_l04Flight.l1.eq_2 ..) (ev_pos (by omega) ?_), h⟩
      rw [w64 (by omega) (by omega)]
      exact ev_bind0 (l04Height_eq h0 (by omega) (by omega) (by omega)) (ev_neg g (Ev.step (fun k => spec_l04Flight.j2.eq_2 ..) hr))
theorem spec_l04Flight_l0 {up : Int} (h0 : 0 ≤ up) (h1 : up ≤ 200000) : ∀ (d : Nat) (lo hi : Int), hi - lo = d → 0 ≤ lo → lo < hi → hi ≤ 60000 → ht up hi ≤ 0 → (0 < ht up 1 → 0 < ht up lo) →
    ∃ r, Ev (fun k => spec_l04Flight.l0 k up lo hi) r ∧ FlightAt up r := by
  intro d
  induction d using Nat.strongRecOn with
  | ind d ih =>
    intro lo hi hd a b c e f
    by_cases hlt : lo + 1 < hi
    · by_cases g : ht up ((lo + hi) / 2) ≤ 0
      · obtain ⟨r, hr, h⟩ := ih ((lo + hi) / 2 - lo).toNat (by omega) lo ((lo + hi) / 2) (by omega) a (by omega) (by omega) g f
        refine ⟨r, Ev.step (fun k => spec_l04Flight.l0.eq_2 ..) (ev_pos (by rw [w64 (by omega) (by omega)]; exact hlt) ?_), h⟩
        rw [half_wrap (by omega) (by omega) (by omega) (by omega)]
        exact ev_bind0 (l04Height_eq h0 (by omega) (by omega) (by omega)) (ev_pos g hr)
      · obtain ⟨r, hr, h⟩ := ih (hi - (lo + hi) / 2).toNat (by omega) ((lo + hi) / 2) hi (by omega) (by omega) (by omega) c e (fun _ => by omega)
        refine ⟨r, Ev.step (fun k => spec_l04Flight.l0.eq_2 ..) (ev_pos (by rw [w64 (by omega) (by omega)]; exact hlt) ?_), h⟩
        rw [half_wrap (by omega) (by omega) (by omega) (by omega)]
        exact ev_bind0 (l04Height_eq h0 (by omega) (by omega) (by omega)) (ev_neg g hr)
    · have hc : ht up 1 ≤ 0 ∨ (0 < ht up 1 ∧ FlightAt up hi) := by
        by_cases g : ht up 1 ≤ 0
        · exact .inl g
        · refine .inr ⟨by omega, flight_of_step (by omega) (by omega) e ?_⟩
          rw [show hi - 1 = lo by omega]; exact f (by omega)
      obtain ⟨r, hr, h⟩ := spec_l04Flight_l1 h0 h1 (hi - 1).toNat hi (by omega) c hc
      exact ⟨r, Ev.step (fun k => spec_l04Flight.l0.eq_2 ..) (ev_neg (by rw [w64 (by omega) (by omega)]; exact hlt) hr), h⟩
theorem spec_l04Flight_ev {up : Int} (h0 : 0 ≤ up) (h1 : up ≤ 200000) : ∃ r, Ev (fun k => spec_l04Flight.f k up) r ∧ FlightAt up r := by
  have hL := last_le h0 h1
  obtain ⟨t, ht0, ⟨h, h'⟩⟩ := spec_l04Top_ev h0 h1
  have hp : 0 < ht up 1 → 0 < ht up t := fun g => by
    have h2 := top_max (up := up) (t := 1)
    have h3 : top up ≤ ht up t := h.2.1
    omega
  have h4 := h.1
  obtain ⟨r, hr, k⟩ := spec_l04Flight_l0 h0 h1 (60000 - t).toNat t 60000 (by omega) h4 (by omega) (by omega) (ht_end h0 h1) hp
  exact ⟨r, ht0.bind hr, k⟩
theorem flight_both {up : Int} (h0 : 0 ≤ up) (h1 : up ≤ 200000) : ∃ r, Ev (fun k => impl_flightOf.f k up) r ∧ Ev (fun k => spec_l04Flight.f k up) r ∧ FlightAt up r ∧ 1 ≤ r ∧ r ≤ 60000 := by
  obtain ⟨r, a, b⟩ := impl_flightOf_ev h0 h1
  obtain ⟨r', a', b'⟩ := spec_l04Flight_ev h0 h1
  obtain rfl := least_uniq b b'
  exact ⟨r, a, a', b, flight_le h0 h1 b⟩

theorem drift_wrap {side wind t : Int} (h : -50000 ≤ side) (h' : side ≤ 50000) (k : -50000 ≤ wind) (k' : wind ≤ 50000) (t0 : 0 ≤ t) (t1 : t ≤ 60000) : wrap64 ((wrap64 (side + wind)) * t) = (side + wind) * t ∧ -4611686018427387904 ≤ (side + wind) * t ∧ (side + wind) * t ≤ 4611686018427387904 := by
  have hb := mul_bound (x := side + wind) (t := t) (by omega) (by omega) t0 t1
  rw [w64 (n := side + wind) (by omega) (by omega), w64 (by omega) (by omega)]
  omega
theorem driftAt_eq {side wind t : Int} (h : -50000 ≤ side) (h' : side ≤ 50000) (k : -50000 ≤ wind) (k' : wind ≤ 50000) (t0 : 0 ≤ t) (t1 : t ≤ 60000) : impl_driftAt.f side wind t = some (drift side wind t) := by
  obtain ⟨a, b, c⟩ := drift_wrap h h' k k' t0 t1
  unfold impl_driftAt.f
  rw [a, floorDiv_eq (by omega) b c]; rfl
theorem l04Drift_eq {side wind t : Int} (h : -50000 ≤ side) (h' : side ≤ 50000) (k : -50000 ≤ wind) (k' : wind ≤ 50000) (t0 : 0 ≤ t) (t1 : t ≤ 60000) : spec_l04Drift.f side wind t = some (drift side wind t) := by
  obtain ⟨a, b, c⟩ := drift_wrap h h' k k' t0 t1
  unfold spec_l04Drift.f
  rw [a, floor_eq (by omega) b c]; rfl
/-- the ranges that the drifts ask for -/
def DriftOk (side low high t : Int) : Prop := (-50000 ≤ side ∧ side ≤ 50000) ∧ (-50000 ≤ low ∧ low ≤ high ∧ high ≤ 50000) ∧ 0 ≤ t ∧ t ≤ 60000
theorem impl_DriftRange_in {side low high t : Int} (h : DriftOk side low high t) : Ev (fun k => impl_DriftRange.f k side low high t) (drift side low t, drift side high t, 0) := by
  obtain ⟨⟨a, a'⟩, ⟨b, b', b''⟩, c, c'⟩ := h
  unfold impl_DriftRange.f impl_isSide.f impl_areWinds.f impl_isSide.f impl_isFlightTime.f
  simp only [within_eq, Option.bind_some, show (-50000 ≤ side ∧ side ≤ 50000) by omega, show (-50000 ≤ low ∧ low ≤ 50000) by omega, show (-50000 ≤ high ∧ high ≤ 50000) by omega, show (0 ≤ t ∧ t ≤ 60000) by omega, b', decide_true, if_true, and_self, Bool.not_true]
  refine Ev.step (fun k => impl_DriftRange.j0.eq_2 ..) (ev_neg (by simp) ?_)
  exact ev_bind0 (driftAt_eq (by omega) (by omega) (by omega) (by omega) (by omega) (by omega)) (ev_bind0 (driftAt_eq (by omega) (by omega) (by omega) (by omega) (by omega) (by omega)) (Ev.now _))
theorem impl_DriftRange_out {side low high t : Int} (h : ¬ DriftOk side low high t) : Ev (fun k => impl_DriftRange.f k side low high t) (0, 0, 2) := by
  have fin : Ev (fun k => impl_DriftRange.j0 k side low high t true) (0, 0, 2) := Ev.step (fun k => impl_DriftRange.j0.eq_2 ..) (ev_pos rfl (Ev.now _))
  unfold DriftOk at h
  unfold impl_DriftRange.f impl_isSide.f impl_areWinds.f impl_isSide.f impl_isFlightTime.f
  simp only [within_eq, Option.bind_some]
  by_cases a : -50000 ≤ side ∧ side ≤ 50000
  · refine ev_pos (by simpa using a) ?_
    by_cases b : -50000 ≤ low ∧ low ≤ high ∧ high ≤ 50000
    · simp only [show (-50000 ≤ low ∧ low ≤ 50000) by omega, show (-50000 ≤ high ∧ high ≤ 50000) by omega, b.2.1, decide_true, if_true, and_self, Option.bind_some]
      have c : decide (0 ≤ t ∧ t ≤ 60000) = false := by simp; omega
      rw [c]
      exact fin
    · have e : (if decide (-50000 ≤ low ∧ low ≤ 50000) = true then if decide (-50000 ≤ high ∧ high ≤ 50000) = true then some (decide (low ≤ high)) else some false else some false) = some false := by
        by_cases g : -50000 ≤ low ∧ low ≤ 50000
        · by_cases g' : -50000 ≤ high ∧ high ≤ 50000
          · simp [g, g']; omega
          · simp [g']
        · simp [g]
      refine ev_bind0 e (ev_neg (by simp) fin)
  · exact ev_neg (by simpa using a) fin
/-- what LandingRange asks for -/
def LandOk (up side low high : Int) : Prop := (0 ≤ up ∧ up ≤ 200000) ∧ (-50000 ≤ side ∧ side ≤ 50000) ∧ (-50000 ≤ low ∧ low ≤ high ∧ high ≤ 50000)
theorem Landing_in {up side low high : Int} (h : LandOk up side low high) : ∃ t, Ev (fun k => impl_LandingRange.f k up side low high) (drift side low t, drift side high t, 0) ∧ Ev (fun k => spec_LandingRange.f k up side low high) (drift side low t, drift side high t, 0) ∧ FlightAt up t ∧ 1 ≤ t ∧ t ≤ 60000 := by
  obtain ⟨⟨a, a'⟩, ⟨b, b'⟩, c, c', c''⟩ := h
  obtain ⟨t, e, f, g, t1, t2⟩ := flight_both a a'
  refine ⟨t, ?_, ?_, g, t1, t2⟩
  · unfold impl_LandingRange.f impl_isUp.f
    rw [within_eq, Option.bind_some]
    exact ev_bind0 rfl (ev_pos (by simp; omega) (e.bind ((impl_DriftRange_in ⟨⟨b, b'⟩, ⟨c, c', c''⟩, by omega, by omega⟩).bind (Ev.now _))))
  · unfold spec_LandingRange.f spec_l04Winds.f spec_l04Code.f
    simp only [in_eq, Option.bind_some]
    refine ev_bind0 (b := 0) (by simp [show (-50000 ≤ side ∧ side ≤ 50000) by omega, show (-50000 ≤ low ∧ low ≤ 50000) by omega, show (low ≤ high ∧ high ≤ 50000) by omega, show (0 ≤ up ∧ up ≤ 200000) by omega]) (ev_pos rfl (f.bind ?_))
    exact ev_bind0 (l04Drift_eq (by omega) (by omega) (by omega) (by omega) (by omega) (by omega)) (ev_bind0 (l04Drift_eq (by omega) (by omega) (by omega) (by omega) (by omega) (by omega)) (Ev.now _))
theorem Landing_out {up side low high : Int} (h : ¬ LandOk up side low high) : Ev (fun k => impl_LandingRange.f k up side low high) (0, 0, 2) ∧ Ev (fun k => spec_LandingRange.f k up side low high) (0, 0, 2) := by
  unfold LandOk at h
  constructor
  · unfold impl_LandingRange.f impl_isUp.f
    rw [within_eq, Option.bind_some]
    by_cases a : 0 ≤ up ∧ up ≤ 200000
    · obtain ⟨t, e, _, _, t1, t2⟩ := flight_both a.1 a.2
      refine ev_bind0 rfl (ev_pos (by simp; omega) (e.bind ((impl_DriftRange_out (side := side) (low := low) (high := high) (t := t) ?_).bind (Ev.now _))))
      unfold DriftOk; omega
    · exact ev_bind0 rfl (ev_neg (by simp; omega) (Ev.now _))
  · unfold spec_LandingRange.f spec_l04Winds.f spec_l04Code.f
    simp only [in_eq, Option.bind_some]
    refine ev_bind0 (b := 2) ?_ (ev_neg (by decide) (Ev.now _))
    by_cases a : 0 ≤ up ∧ up ≤ 200000
    · by_cases b : -50000 ≤ side ∧ side ≤ 50000
      · by_cases c : -50000 ≤ low ∧ low ≤ 50000
        · have d : ¬ (low ≤ high ∧ high ≤ 50000) := by omega
          simp [a, b, c, d]
        · simp [a, b, c]
      · simp [a, b]
    · simp [a]

theorem main : laws_FnExactLandingRange.Pure := by
  intro up side low high _ _ _ _
  apply Ev.rounds
  unfold laws_FnExactLandingRange.f
  by_cases g : LandOk up side low high
  · obtain ⟨t, a, b, _⟩ := Landing_in g
    refine b.bind (a.bind ?_)
    simp only [if_true]
    exact Ev.now _
  · obtain ⟨a, b⟩ := Landing_out g
    refine b.bind (a.bind ?_)
    simp only [if_true]
    exact Ev.now _

end Go.Proofs.Ytkedlfedjbgbiaa.PureFnExactLandingRange
namespace Go.Proofs.Ytkedlfedjbgbiaa.Pure
theorem FnExactLandingRange : PFnExactLandingRange.laws_FnExactLandingRange.Pure := PureFnExactLandingRange.main
end Go.Proofs.Ytkedlfedjbgbiaa.Pure
