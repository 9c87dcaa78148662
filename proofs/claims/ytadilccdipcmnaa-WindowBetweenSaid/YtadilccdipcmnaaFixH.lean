/- The law FixAround: the plain law and the walk. -/
import Derived.Test.YtadilccdipcmnaaFixG
namespace Go.Proofs.Ytadilccdipcmnaa
open Go Go.RowKit

def upN (p g : Int) : Int := if p % g = 0 then p else p - p % g + g
theorem upN_ge {p g : Int} (hg : 1 ≤ g) : p ≤ upN p g := by
  have h2 := Int.emod_lt_of_pos p (show 0 < g by omega)
  unfold upN
  split <;> omega
theorem upN_grid {p g : Int} : upN p g % g = 0 := by
  unfold upN
  split
  · assumption
  · rw [Int.add_emod_right]
    exact Int.emod_eq_zero_of_dvd (Int.dvd_self_sub_emod)
theorem upN_least {p g m : Int} (hg : 1 ≤ g) (hm : m % g = 0) (h : p ≤ m) : upN p g ≤ m := by
  unfold upN
  split
  · exact h
  · rename_i hz
    have h1 := Int.emod_nonneg p (show g ≠ 0 by omega)
    have h2 := Int.mul_ediv_add_emod p g
    have h3 := Int.mul_ediv_add_emod m g
    rw [hm, Int.add_zero] at h3
    have h4 : g * (p / g) < g * (m / g) := by omega
    have h5 : p / g < m / g := Int.lt_of_mul_lt_mul_left h4 (by omega)
    have h6 : g * (p / g + 1) ≤ g * (m / g) := Int.mul_le_mul_of_nonneg_left (by omega) (by omega)
    rw [Int.mul_add, Int.mul_one] at h6
    omega
theorem downN_most {x g m : Int} (hg : 1 ≤ g) (hm : m % g = 0) (h : m ≤ x) : m ≤ x - x % g := by
  have h1 := Int.emod_lt_of_pos x (show 0 < g by omega)
  have h2 := Int.mul_ediv_add_emod x g
  have h3 := Int.mul_ediv_add_emod m g
  rw [hm, Int.add_zero] at h3
  have h4 : g * (m / g) < g * (x / g + 1) := by rw [Int.mul_add, Int.mul_one]; omega
  have h5 : m / g < x / g + 1 := Int.lt_of_mul_lt_mul_left h4 (by omega)
  have h6 : g * (m / g) ≤ g * (x / g) := Int.mul_le_mul_of_nonneg_left (by omega) (by omega)
  omega
theorem upF_some {p g m : Int} (h0 : 0 ≤ p) (hg : 1 ≤ g) (hm : m % g = 0) (h : p ≤ m) (hk : m < 9223372036854775808) : upF p g = some (upN p g) := by
  have h1 := upN_least hg hm h
  have h2 := upN_ge (p := p) hg
  rw [up_in h0 hg]
  unfold upN at *
  by_cases hz : p % g = 0
  · rw [if_pos hz, if_pos hz]
  · rw [if_neg hz] at h1 h2
    rw [if_neg hz, if_neg hz]
    unfold addF
    rw [if_pos (show okI (p - p % g + g) by unfold okI; omega)]
theorem ceil_mono {a b : Int} (h : a ≤ b) : ceilV a ≤ ceilV b := by
  unfold ceilV
  split <;> split <;> omega
theorem ceil_top (r : Int) : ceilV (r * 10000) = r := by
  unfold ceilV
  omega
theorem ceil_pos {n : Int} (h : 1 ≤ n) : 1 ≤ ceilV n := by
  unfold ceilV
  split <;> omega

/-- Lower and Upper of a reference on the grid. -/
theorem around_law {r g bps more : Int} (hr : 1 ≤ r) (hr2 : r ≤ 1099511627776) (hg : 1 ≤ g) (hg2 : g ≤ 1099511627776) (hz : r % g = 0) (h0 : 0 ≤ bps) (h1 : bps ≤ more) (h2 : more ≤ 9999) :
    ∃ a b c d, lowerF r bps g = some a ∧ upperF r bps g = some b ∧ lowerF r more g = some c ∧ upperF r more g = some d ∧
      c ≤ a ∧ a ≤ r ∧ r ≤ b ∧ b ≤ d ∧ a % g = 0 ∧ b % g = 0 ∧ 0 < c ∧ priceF a g = 0 := by
  have m1 : r * (10000 - more) ≤ r * (10000 - bps) := Int.mul_le_mul_of_nonneg_left (by omega) (by omega)
  have m2 : r * (10000 - bps) ≤ r * 10000 := Int.mul_le_mul_of_nonneg_left (by omega) (by omega)
  have m3 : 1 ≤ r * (10000 - more) := by
    have := Int.mul_le_mul hr (show 1 ≤ 10000 - more by omega) (by decide) (by omega)
    omega
  have m4 : r * 10000 ≤ r * (10000 + bps) := Int.mul_le_mul_of_nonneg_left (by omega) (by omega)
  have m5 : r * (10000 + bps) ≤ r * (10000 + more) := Int.mul_le_mul_of_nonneg_left (by omega) (by omega)
  have c1 := ceil_mono m1
  have c2 := ceil_mono m2
  rw [ceil_top] at c2
  have c3 := ceil_pos m3
  have hU := upF_some (p := ceilV (r * (10000 - bps))) (by omega) hg hz c2 (by omega)
  have hV := upF_some (p := ceilV (r * (10000 - more))) (by omega) hg hz (by omega) (by omega)
  have f1 : fitsP r bps g := ⟨hr, hr2, h0, by omega, hg, hg2⟩
  have f2 : fitsP r more g := ⟨hr, hr2, by omega, h2, hg, hg2⟩
  have u1 := upN_least hg hz c2
  have u2 := upN_ge (p := ceilV (r * (10000 - more))) hg
  have u3 := upN_grid (p := ceilV (r * (10000 - bps))) (g := g)
  have u4 := upN_ge (p := ceilV (r * (10000 - bps))) hg
  have u5 := upN_least (p := ceilV (r * (10000 - more))) hg u3 (by omega)
  have d1 := downN_most (x := r * (10000 + bps) / 10000) hg hz (by omega)
  have d2 : (r * (10000 + bps) / 10000 - r * (10000 + bps) / 10000 % g) % g = 0 := Int.emod_eq_zero_of_dvd (Int.dvd_self_sub_emod)
  have d3 := Int.emod_nonneg (r * (10000 + bps) / 10000) (show g ≠ 0 by omega)
  have d4 := downN_most (x := r * (10000 + more) / 10000) hg d2 (by omega)
  refine ⟨_, _, _, _, (if_pos f1).trans hU, (if_pos f1).trans (by rw [down_in (by omega) hg]), (if_pos f2).trans hV, (if_pos f2).trans (by rw [down_in (by omega) hg]), u5, u1, d1, d4, u3, d2, by omega, ?_⟩
  unfold priceF
  rw [if_neg (by omega), if_neg (by omega), if_pos u3]
set_option maxRecDepth 100000 in
set_option maxHeartbeats 2000000 in
theorem fixAround_w (n g bps more : Int) (w : World) :
    Calls Try.prog 14 #[.int .i64 n, .int .i64 g, .int .i64 bps, .int .i64 more] w fun e w' => e = .returned (.bool true) ∧ Below w.heap.size w w' := by
  by_cases h0 : g < 1
  · go_enter Try.func14, Try.ntmps14
    go_wp2_with (fail)
    (with_reducible refine (alive02_any _).mono ?_)
    rintro e w1 ⟨rfl, hb⟩
    dsimp only
    go_wp2
    go_ret
    exact ⟨rfl, hb⟩
  by_cases h1 : 1048576 < g
  · go_enter Try.func14, Try.ntmps14
    go_wp2_with (fail)
    (with_reducible refine (alive02_any _).mono ?_)
    rintro e w1 ⟨rfl, hb⟩
    dsimp only
    go_wp2
    go_ret
    exact ⟨rfl, hb⟩
  by_cases h2 : n < 1
  · go_enter Try.func14, Try.ntmps14
    go_wp2_with (fail)
    (with_reducible refine (alive02_any _).mono ?_)
    rintro e w1 ⟨rfl, hb⟩
    dsimp only
    go_wp2
    go_ret
    exact ⟨rfl, hb⟩
  by_cases h3 : 1048576 < n
  · go_enter Try.func14, Try.ntmps14
    go_wp2_with (fail)
    (with_reducible refine (alive02_any _).mono ?_)
    rintro e w1 ⟨rfl, hb⟩
    dsimp only
    go_wp2
    go_ret
    exact ⟨rfl, hb⟩
  by_cases h4 : bps < 0
  · go_enter Try.func14, Try.ntmps14
    go_wp2_with (fail)
    (with_reducible refine (alive02_any _).mono ?_)
    rintro e w1 ⟨rfl, hb⟩
    dsimp only
    go_wp2
    go_ret
    exact ⟨rfl, hb⟩
  by_cases h5 : more < bps
  · go_enter Try.func14, Try.ntmps14
    go_wp2_with (fail)
    (with_reducible refine (alive02_any _).mono ?_)
    rintro e w1 ⟨rfl, hb⟩
    dsimp only
    go_wp2
    go_ret
    exact ⟨rfl, hb⟩
  by_cases h6 : 9999 < more
  · go_enter Try.func14, Try.ntmps14
    go_wp2_with (fail)
    (with_reducible refine (alive02_any _).mono ?_)
    rintro e w1 ⟨rfl, hb⟩
    dsimp only
    go_wp2
    go_ret
    exact ⟨rfl, hb⟩
  have hng : 1 ≤ n * g ∧ n * g ≤ 1099511627776 := by
    have e1 := Int.mul_le_mul (show 1 ≤ n by omega) (show 1 ≤ g by omega) (by decide) (by omega)
    have e2 := Int.mul_le_mul (show n ≤ 1048576 by omega) (show g ≤ 1048576 by omega) (by omega) (by decide)
    omega
  obtain ⟨r1, r2⟩ := hng
  have hz : n * g % g = 0 := Int.mul_emod_left _ _
  obtain ⟨a, b, c, d, La, Ub, Lc, Ud, i1, i2, i3, i4, i5, i6, i7, i8⟩ := around_law (r := n * g) (g := g) (bps := bps) (more := more) r1 r2 (by omega) (by omega) hz (by omega) (by omega) (by omega)
  have Hg : Hid (okI g) := hide (by unfold okI; omega)
  have Ha : Hid (okI a) := hide (by unfold okI; omega)
  have HW : Hid (wrap64 (n * g) = n * g) := hide (wrap64_id (by unfold okI; omega))
  have La := hide La
  have Ub := hide Ub
  have Lc := hide Lc
  have Ud := hide Ud
  have I8 := hide i8
  have j5 : (a % g == 0) = true := by rw [i5]; rfl
  have j6 : (b % g == 0) = true := by rw [i6]; rfl
  have hgne : g ≠ 0 := by omega
  have b1 : 1 ≤ b := by omega
  clear i5 i6 i8 hz
  have B0 := hide (Below.refl w.heap.size w)
  go_enter Try.func14, Try.ntmps14
  generalize hR : n * g = R at *
  go_wp2_with (fail)
  try rw [hR]
  (with_reducible refine (lower_any R bps g _ Hg.out).mono ?_)
  rintro e w1 ⟨rfl, hb⟩
  have B1 := hide (B0.out.trans (hb.mono B0.out.size))
  clear hb
  dsimp only
  rw [La.out, opt_some]
  go_wp2_with (fail)
  (with_reducible refine (upper_any R bps g _ Hg.out).mono ?_)
  rintro e w2 ⟨rfl, hb⟩
  have B2 := hide (B1.out.trans (hb.mono B1.out.size))
  clear hb
  dsimp only
  rw [Ub.out, opt_some]
  go_wp2_with (fail)
  (with_reducible refine (lower_any R more g _ Hg.out).mono ?_)
  rintro e w3 ⟨rfl, hb⟩
  have B3 := hide (B2.out.trans (hb.mono B2.out.size))
  clear hb
  dsimp only
  rw [Lc.out, opt_some]
  go_wp2_with (fail)
  (with_reducible refine (upper_any R more g _ Hg.out).mono ?_)
  rintro e w4 ⟨rfl, hb⟩
  have B4 := hide (B3.out.trans (hb.mono B3.out.size))
  clear hb
  dsimp only
  rw [Ud.out, opt_some]
  go_wp2_with (fail)
  (with_reducible refine (price_any a g _ Ha.out Hg.out).mono ?_)
  rintro e w' ⟨rfl, rfl⟩
  dsimp only
  rw [I8.out]
  go_wp2_with (fail)
  (with_reducible refine (alive02_any _).mono ?_)
  rintro e w5 ⟨rfl, hb⟩
  have B5 := hide (B4.out.trans (hb.mono B4.out.size))
  clear hb
  dsimp only
  go_wp2
  go_ret
  exact ⟨rfl, B5.out⟩
end Go.Proofs.Ytadilccdipcmnaa
