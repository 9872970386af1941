/- DriftRange answers what the reference's answers, for all arguments; no condition. -/
import Derived.Test.YtkedlfedjbgbiaaMa
import Derived.Test.YtkedlfedjbgbiaaPFnExactDriftRangex
namespace Go.Proofs.Ytkedlfedjbgbiaa.PureFnExactDriftRange
open Go.RowKit Go.Proofs.Ytkedlfedjbgbiaa.PFnExactDriftRange Go.Proofs.YtkedlfedjbgbiaaW.PrintWords Go.Proofs.YtkedlfedjbgbiaaW.PrintLast Go.Proofs.Ytkedlfedjbgbiaa.Ma

/-! flights -/
def F (up t : Int) : Int := 2000 * up * t - 9810 * t * t
def ht (up t : Int) : Int := F up t / 2000000
theorem F_diff (up s t : Int) : F up t - F up s = (t - s) * (2000 * up - 9810 * (s + t)) := by unfold F; grind
theorem F_rise {up s t : Int} (hst : s ≤ t) (h : 9810 * (s + t) ≤ 2000 * up) : F up s ≤ F up t := by
  have := F_diff up s t
  have h2 : 0 ≤ (t - s) * (2000 * up - 9810 * (s + t)) := Int.mul_nonneg (by omega) (by omega)
  omega
theorem F_fall {up s t : Int} (hst : s ≤ t) (h : 2000 * up ≤ 9810 * (s + t)) : F up t ≤ F up s := by
  have := F_diff up s t
  have h2 : 0 ≤ (t - s) * (9810 * (s + t) - 2000 * up) := Int.mul_nonneg (by omega) (by omega)
  have h3 : (t - s) * (9810 * (s + t) - 2000 * up) = -((t - s) * (2000 * up - 9810 * (s + t))) := by grind
  omega
theorem ht_mono {up s t : Int} (h : F up s ≤ F up t) : ht up s ≤ ht up t := Int.ediv_le_ediv (by omega) h
def last (up : Int) : Int := 1000 * up / 9810
theorem last_b (up : Int) : 9810 * last up ≤ 1000 * up ∧ 1000 * up < 9810 * (last up + 1) := by unfold last; omega
theorem ht_rise {up s t : Int} (hst : s ≤ t) (h : t ≤ last up) : ht up s ≤ ht up t := by
  have := last_b up
  exact ht_mono (F_rise hst (by omega))
theorem ht_fall {up s t : Int} (hst : s ≤ t) (h : last up + 1 ≤ s) : ht up t ≤ ht up s := by
  have := last_b up
  exact ht_mono (F_fall hst (by omega))
/-- the least from lo on -/
def Least (p : Int → Prop) (lo r : Int) : Prop := lo ≤ r ∧ p r ∧ ∀ s, lo ≤ s → s < r → ¬ p s
theorem least_uniq {p : Int → Prop} {lo a b : Int} (ha : Least p lo a) (hb : Least p lo b) : a = b := by
  obtain ⟨h1, h2, h3⟩ := ha
  obtain ⟨k1, k2, k3⟩ := hb
  rcases Int.lt_trichotomy a b with h | h | h
  · exact absurd h2 (k3 a h1 h)
  · exact h
  · exact absurd k2 (h3 b k1 h)
def top (up : Int) : Int := max (ht up (last up)) (ht up (last up + 1))
/-- nothing is higher than the top -/
theorem top_max {up t : Int} : ht up t ≤ top up := by
  unfold top
  by_cases h : t ≤ last up
  · have := ht_rise h (Int.le_refl _); omega
  · have := ht_fall (up := up) (s := last up + 1) (t := t) (by omega) (by omega); omega
def TopAt (up r : Int) : Prop := Least (fun t => top up ≤ ht up t) 0 r
theorem F_up {u v t : Int} (ht : 0 ≤ t) (h : u ≤ v) : F u t ≤ F v t := by
  have : F v t - F u t = 2000 * ((v - u) * t) := by unfold F; grind
  have := Int.mul_nonneg (show 0 ≤ v - u by omega) ht
  omega
theorem top_up {u v : Int} (hu : 0 ≤ u) (h : u ≤ v) : top u ≤ top v := by
  have h0 : 0 ≤ last u := by unfold last; omega
  have h1 : ht u (last u) ≤ ht v (last u) := Int.ediv_le_ediv (by omega) (F_up h0 h)
  have h2 : ht u (last u + 1) ≤ ht v (last u + 1) := Int.ediv_le_ediv (by omega) (F_up (by omega) h)
  have h4 := top_max (up := v) (t := last u)
  have h5 := top_max (up := v) (t := last u + 1)
  have h3 : top u = max (ht u (last u)) (ht u (last u + 1)) := rfl
  omega
/-- bounds: what the program computes fits in its numbers -/
theorem F_bound {up t : Int} (h0 : 0 ≤ up) (h1 : up ≤ 200001) (t0 : 0 ≤ t) (t1 : t ≤ 70000) : 0 ≤ 2000 * up * t ∧ 2000 * up * t ≤ 28001000000000 ∧ 0 ≤ 9810 * t ∧ 9810 * t ≤ 686700000 ∧ 0 ≤ 9810 * t * t ∧ 9810 * t * t ≤ 48069000000000 := by
  have a := Int.mul_nonneg (show 0 ≤ 2000 * up by omega) t0
  have b := Int.mul_le_mul (show 2000 * up ≤ 400002000 by omega) t1 t0 (by omega)
  have c := Int.mul_nonneg (show 0 ≤ 9810 * t by omega) t0
  have d := Int.mul_le_mul (show 9810 * t ≤ 686700000 by omega) t1 t0 (by omega)
  omega
/-! flight and drift -/
def FlightAt (up r : Int) : Prop := Least (fun t => ht up t ≤ 0) 1 r
theorem ht_end {up : Int} (h0 : 0 ≤ up) (h1 : up ≤ 200000) : ht up 60000 ≤ 0 := by
  unfold ht F; omega
theorem last_le {up : Int} (h0 : 0 ≤ up) (h1 : up ≤ 200000) : 0 ≤ last up ∧ last up ≤ 20387 := by unfold last; omega
/-- where the first millisecond is in the air: all up to the last rise is -/
theorem ht_pos {up s : Int} (h : 0 < ht up 1) (h1 : 1 ≤ s) (h2 : s ≤ last up) : 0 < ht up s := by
  have := ht_rise h1 h2; omega
/-- so the flight is found behind the last rise -/
theorem flight_of_search {up r : Int} (h : 0 < ht up 1) (h0 : 1 ≤ r) (hr : ht up r ≤ 0) (hl : ∀ s, last up + 1 ≤ s → s < r → 0 < ht up s) : FlightAt up r := by
  refine ⟨h0, hr, fun s h1 h2 h3 => ?_⟩
  by_cases hs : s ≤ last up
  · have := ht_pos h h1 hs; omega
  · have := hl s (by omega) h2; omega
theorem flight_of_step {up r : Int} (h : 0 < ht up 1) (h0 : 1 ≤ r) (hr : ht up r ≤ 0) (hl : 0 < ht up (r - 1)) : FlightAt up r := by
  refine flight_of_search h h0 hr (fun s h1 h2 => ?_)
  have := ht_fall (up := up) (s := s) (t := r - 1) (by omega) h1; omega
theorem flight_one {up : Int} (h : ht up 1 ≤ 0) : FlightAt up 1 := ⟨by omega, h, fun s _ _ => by omega⟩
theorem flight_le {up r : Int} (h0 : 0 ≤ up) (h1 : up ≤ 200000) (h : FlightAt up r) : 1 ≤ r ∧ r ≤ 60000 := by
  refine ⟨h.1, ?_⟩
  rcases Int.lt_or_le 60000 r with h2 | h2
  · exact absurd (ht_end h0 h1) (h.2.2 60000 (by omega) h2)
  · exact h2
def drift (side wind t : Int) : Int := (side + wind) * t / 1000
theorem drift_mono {a b wind t : Int} (ht : 0 ≤ t) (h : a ≤ b) : drift a wind t ≤ drift b wind t :=
  Int.ediv_le_ediv (by omega) (Int.mul_le_mul_of_nonneg_right (by omega) ht)
theorem drift_mono_wind {side a b t : Int} (ht : 0 ≤ t) (h : a ≤ b) : drift side a t ≤ drift side b t :=
  Int.ediv_le_ediv (by omega) (Int.mul_le_mul_of_nonneg_right (by omega) ht)
theorem mul_bound {x t : Int} (hx : -100000 ≤ x) (hx' : x ≤ 100000) (h0 : 0 ≤ t) (h1 : t ≤ 60000) : -6000000000 ≤ x * t ∧ x * t ≤ 6000000000 := by
  have a := Int.mul_nonneg (show 0 ≤ x + 100000 by omega) h0
  have b := Int.mul_nonneg (show 0 ≤ 100000 - x by omega) h0
  rw [Int.add_mul] at a
  rw [Int.sub_mul] at b
  omega
def Found (wind t least most s : Int) : Prop := least ≤ drift s wind t ∧ drift s wind t ≤ most
def SideIs (wind t least most r code : Int) : Prop :=
  (code = 0 ∧ -50000 ≤ r ∧ r ≤ 50000 ∧ Found wind t least most r ∧ ∀ s, -50000 ≤ s → s ≤ 50000 → Found wind t least most s → (0 ≤ r ∧ r ≤ s) ∨ (s ≤ r ∧ r ≤ 0)) ∨
  (code = 4 ∧ r = 0 ∧ ∀ s, -50000 ≤ s → s ≤ 50000 → ¬ Found wind t least most s)
theorem side_uniq {wind t least most a c b d : Int} (h : SideIs wind t least most a c) (k : SideIs wind t least most b d) : a = b ∧ c = d := by
  rcases h with ⟨h1, h2, h3, h4, h5⟩ | ⟨h1, h2, h3⟩ <;> rcases k with ⟨k1, k2, k3, k4, k5⟩ | ⟨k1, k2, k3⟩
  · have := h5 b k2 k3 k4
    have := k5 a h2 h3 h4
    omega
  · exact absurd h4 (k3 a h2 h3)
  · exact absurd k4 (h3 b k2 k3)
  · omega

/-! ### division, ranges -/
theorem in_eq (a b c : Int) : spec_l01In.f a b c = some (decide (b ≤ a ∧ a ≤ c)) := by
  unfold spec_l01In.f
  by_cases h : b ≤ a <;> simp [h]
theorem within_eq (a b c : Int) : impl_within.f a b c = some (decide (b ≤ a ∧ a ≤ c)) := by
  unfold impl_within.f
  by_cases h : b ≤ a <;> simp [h]
theorem tdiv_floor {a b : Int} (hb : 0 < b) : (Int.tmod a b < 0 → Int.tdiv a b - 1 = a / b) ∧ (¬ Int.tmod a b < 0 → Int.tdiv a b = a / b) := by
  have h1 := Int.tdiv_eq_ediv (a := a) (b := b)
  have h2 := Int.tmod_eq_emod (a := a) (b := b)
  have h3 := Int.emod_nonneg a (show b ≠ 0 by omega)
  have h4 := Int.emod_lt_of_pos a hb
  by_cases h : 0 ≤ a ∨ b ∣ a
  · rw [if_pos h] at h1 h2
    omega
  · rw [if_neg h] at h1 h2
    rw [Int.sign_eq_one_of_pos hb] at h1
    omega
theorem ediv_small {a b : Int} (hb : 0 < b) (h : -4611686018427387904 ≤ a) (h' : a ≤ 4611686018427387904) : -4611686018427387904 ≤ a / b ∧ a / b ≤ 4611686018427387904 := by
  have h1 : -4611686018427387904 * b ≤ a := by
    have := Int.mul_le_mul_of_nonneg_left (show 1 ≤ b by omega) (show (0 : Int) ≤ 4611686018427387904 by omega); omega
  have h2 : a < (4611686018427387904 + 1) * b := by
    have := Int.mul_le_mul_of_nonneg_left (show 1 ≤ b by omega) (show (0 : Int) ≤ 4611686018427387905 by omega); omega
  have h3 := (Int.le_ediv_iff_mul_le hb).2 h1
  have h4 := (Int.ediv_lt_iff_lt_mul hb).2 h2
  omega
theorem floorDiv_eq {a b : Int} (hb : 0 < b) (h : -4611686018427387904 ≤ a) (h' : a ≤ 4611686018427387904) : impl_floorDiv.f a b = some (a / b) := by
  have h1 := tdiv_floor (a := a) hb
  have h2 := ediv_small hb h h'
  unfold impl_floorDiv.f
  rw [if_neg (by omega)]
  by_cases c : Int.tmod a b < 0
  · have := h1.1 c
    rw [if_pos c, w64 (n := Int.tdiv a b) (by omega) (by omega), w64 (by omega) (by omega), this]
  · have := h1.2 c
    rw [if_neg c, w64 (by omega) (by omega), this]
theorem floor_eq {a b : Int} (hb : 0 < b) (h : -4611686018427387904 ≤ a) (h' : a ≤ 4611686018427387904) : spec_l01Floor.f a b = some (a / b) := by
  have h1 := tdiv_floor (a := a) hb
  have h2 := ediv_small hb h h'
  unfold spec_l01Floor.f
  rw [if_neg (by omega), if_neg (by omega)]
  by_cases c : Int.tmod a b < 0
  · have := h1.1 c
    rw [if_pos c, w64 (n := Int.tdiv a b) (by omega) (by omega), w64 (by omega) (by omega), this]
  · have := h1.2 c
    rw [if_neg c, w64 (by omega) (by omega), this]

theorem drift_wrap {side wind t : Int} (h : -50000 ≤ side) (h' : side ≤ 50000) (k : -50000 ≤ wind) (k' : wind ≤ 50000) (t0 : 0 ≤ t) (t1 : t ≤ 60000) : wrap64 ((wrap64 (side + wind)) * t) = (side + wind) * t ∧ -4611686018427387904 ≤ (side + wind) * t ∧ (side + wind) * t ≤ 4611686018427387904 := by
  have hb := mul_bound (x := side + wind) (t := t) (by omega) (by omega) t0 t1
  rw [w64 (n := side + wind) (by omega) (by omega), w64 (by omega) (by omega)]
  omega
theorem driftAt_eq {side wind t : Int} (h : -50000 ≤ side) (h' : side ≤ 50000) (k : -50000 ≤ wind) (k' : wind ≤ 50000) (t0 : 0 ≤ t) (t1 : t ≤ 60000) : impl_driftAt.f side wind t = some (drift side wind t) := by
  obtain ⟨a, b, c⟩ := drift_wrap h h' k k' t0 t1
  unfold impl_driftAt.f
  rw [a, floorDiv_eq (by omega) b c]; rfl
theorem l04Drift_eq {side wind t : Int} (h : -50000 ≤ side) (h' : side ≤ 50000) (k : -50000 ≤ wind) (k' : wind ≤ 50000) (t0 : 0 ≤ t) (t1 : t ≤ 60000) : spec_l04Drift.f side wind t = some (drift side wind t) := by
  obtain ⟨a, b, c⟩ := drift_wrap h h' k k' t0 t1
  unfold spec_l04Drift.f
  rw [a, floor_eq (by omega) b c]; rfl
/-- the ranges that the drifts ask for -/
def DriftOk (side low high t : Int) : Prop := (-50000 ≤ side ∧ side ≤ 50000) ∧ (-50000 ≤ low ∧ low ≤ high ∧ high ≤ 50000) ∧ 0 ≤ t ∧ t ≤ 60000
theorem impl_DriftRange_in {side low high t : Int} (h : DriftOk side low high t) : Ev (fun k => impl_DriftRange.f k side low high t) (drift side low t, drift side high t, 0) := by
  obtain ⟨⟨a, a'⟩, ⟨b, b', b''⟩, c, c'⟩ := h
  unfold impl_DriftRange.f impl_isSide.f impl_areWinds.f impl_isSide.f impl_isFlightTime.f
  simp only [within_eq, Option.bind_some, show (-50000 ≤ side ∧ side ≤ 50000) by omega, show (-50000 ≤ low ∧ low ≤ 50000) by omega, show (-50000 ≤ high ∧ high ≤ 50000) by omega, show (0 ≤ t ∧ t ≤ 60000) by omega, b', decide_true, if_true, and_self, Bool.not_true]
  refine Ev.step (fun k => impl_DriftRange.j0.eq_2 ..) (ev_neg (by simp) ?_)
  exact ev_bind0 (driftAt_eq (by omega) (by omega) (by omega) (by omega) (by omega) (by omega)) (ev_bind0 (driftAt_eq (by omega) (by omega) (by omega) (by omega) (by omega) (by omega)) (Ev.now _))
theorem impl_DriftRange_out {side low high t : Int} (h : ¬ DriftOk side low high t) : Ev (fun k => impl_DriftRange.f k side low high t) (0, 0, 2) := by
  have fin : Ev (fun k => impl_DriftRange.j0 k side low high t true) (0, 0, 2) := Ev.step (fun k => impl_DriftRange.j0.eq_2 ..) (ev_pos rfl (Ev.now _))
  unfold DriftOk at h
  unfold impl_DriftRange.f impl_isSide.f impl_areWinds.f impl_isSide.f impl_isFlightTime.f
  simp only [within_eq, Option.bind_some]
  by_cases a : -50000 ≤ side ∧ side ≤ 50000
  · refine ev_pos (by simpa using a) ?_
    by_cases b : -50000 ≤ low ∧ low ≤ high ∧ high ≤ 50000
    · simp only [show (-50000 ≤ low ∧ low ≤ 50000) by omega, show (-50000 ≤ high ∧ high ≤ 50000) by omega, b.2.1, decide_true, if_true, and_self, Option.bind_some]
      have c : decide (0 ≤ t ∧ t ≤ 60000) = false := by simp; omega
      rw [c]
      exact fin
    · have e : (if decide (-50000 ≤ low ∧ low ≤ 50000) = true then if decide (-50000 ≤ high ∧ high ≤ 50000) = true then some (decide (low ≤ high)) else some false else some false) = some false := by
        by_cases g : -50000 ≤ low ∧ low ≤ 50000
        · by_cases g' : -50000 ≤ high ∧ high ≤ 50000
          · simp [g, g']; omega
          · simp [g']
        · simp [g]
      refine ev_bind0 e (ev_neg (by simp) fin)
  · exact ev_neg (by simpa using a) fin
theorem spec_DriftRange_eq (side low high t : Int) : (DriftOk side low high t → spec_DriftRange.f side low high t = some (drift side low t, drift side high t, 0)) ∧ (¬ DriftOk side low high t → spec_DriftRange.f side low high t = some (0, 0, 2)) := by
  unfold DriftOk spec_DriftRange.f spec_l04Winds.f spec_l04Code.f
  simp only [in_eq, Option.bind_some]
  constructor
  · rintro ⟨⟨a, a'⟩, ⟨b, b', b''⟩, c, c'⟩
    simp [show (-50000 ≤ side ∧ side ≤ 50000) by omega, show (-50000 ≤ low ∧ low ≤ 50000) by omega, show (low ≤ high ∧ high ≤ 50000) by omega, show (0 ≤ t ∧ t ≤ 60000) by omega, l04Drift_eq (side := side) (wind := low) (t := t) (by omega) (by omega) (by omega) (by omega) (by omega) (by omega), l04Drift_eq (side := side) (wind := high) (t := t) (by omega) (by omega) (by omega) (by omega) (by omega) (by omega)]
  · intro h
    by_cases a : -50000 ≤ side ∧ side ≤ 50000
    · by_cases b : -50000 ≤ low ∧ low ≤ 50000
      · by_cases c : 0 ≤ t ∧ t ≤ 60000
        · by_cases d : low ≤ high ∧ high ≤ 50000
          · omega
          · simp [a, b, c, d]
        · simp [a, b, c]
      · simp [a, b]
    · simp [a]

theorem main : laws_FnExactDriftRange.Pure := by
  intro side low high t _ _ _ _
  apply Ev.rounds
  unfold laws_FnExactDriftRange.f
  obtain ⟨h1, h2⟩ := spec_DriftRange_eq side low high t
  by_cases g : DriftOk side low high t
  · refine ev_bind0 (h1 g) ((impl_DriftRange_in g).bind ?_)
    simp only [if_true]
    exact Ev.now _
  · refine ev_bind0 (h2 g) ((impl_DriftRange_out g).bind ?_)
    simp only [if_true]
    exact Ev.now _

end Go.Proofs.Ytkedlfedjbgbiaa.PureFnExactDriftRange
namespace Go.Proofs.Ytkedlfedjbgbiaa.Pure
theorem FnExactDriftRange : PFnExactDriftRange.laws_FnExactDriftRange.Pure := PureFnExactDriftRange.main
end Go.Proofs.Ytkedlfedjbgbiaa.Pure
