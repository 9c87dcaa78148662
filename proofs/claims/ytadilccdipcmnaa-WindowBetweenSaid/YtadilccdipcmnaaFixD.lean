/- Checked whole numbers: what the program's and the reference's Lower and Upper come to, and the chapter's example. Arguments: any int64, any int. -/
import Derived.Test.YtadilccdipcmnaaFixC
namespace Go.Proofs.Ytadilccdipcmnaa
open Go Go.RowKit

/-- Arguments that Lower and Upper take. -/
def fitsP (r bps g : Int) : Prop := 1 ≤ r ∧ r ≤ 1099511627776 ∧ 0 ≤ bps ∧ bps ≤ 9999 ∧ 1 ≤ g ∧ g ≤ 1099511627776
instance (r bps g : Int) : Decidable (fitsP r bps g) := by unfold fitsP; exact inferInstance
def ceilV (n : Int) : Int := if 0 < n % 10000 then n / 10000 + 1 else n / 10000
def lowerF (r bps g : Int) : Option Int := if fitsP r bps g then upF (ceilV (r * (10000 - bps))) g else none
def upperF (r bps g : Int) : Option Int := if fitsP r bps g then some (downF (r * (10000 + bps) / 10000) g) else none
theorem parts_bd {r p : Int} (h0 : 0 ≤ r) (h : r ≤ 1099511627776) (p0 : 0 ≤ p) (hp : p ≤ 20000) : 0 ≤ r * p ∧ r * p ≤ 21990232555520000 := by
  refine ⟨Int.mul_nonneg h0 p0, ?_⟩
  exact Int.mul_le_mul h hp p0 (by decide)
theorem ceil_bd {n : Int} (h0 : 0 ≤ n) (h : n ≤ 21990232555520000) : okI (ceilV n) ∧ 0 ≤ ceilV n := by
  unfold ceilV okI
  split <;> omega
theorem muldiv_ceil {r p : Int} (h0 : 0 ≤ r) (h : r ≤ 1099511627776) (p0 : 0 ≤ p) (hp : p ≤ 20000) : mulDivF r p 10000 true = some (ceilV (r * p)) := by
  have hb := parts_bd h0 h p0 hp
  rw [muldiv_in h0 p0 (by decide)]
  have e : upV (r * p / 10000) true (r * p % 10000) = ceilV (r * p) := by
    unfold upV ceilV
    simp
  rw [e]
  have := (ceil_bd hb.1 hb.2).1
  unfold okI at this
  rw [if_pos this.2]
theorem muldiv_floor {r p : Int} (h0 : 0 ≤ r) (h : r ≤ 1099511627776) (p0 : 0 ≤ p) (hp : p ≤ 20000) : mulDivF r p 10000 false = some (r * p / 10000) := by
  have hb := parts_bd h0 h p0 hp
  rw [muldiv_in h0 p0 (by decide)]
  have e : upV (r * p / 10000) false (r * p % 10000) = r * p / 10000 := by
    unfold upV
    simp
  rw [e, if_pos (by omega)]
set_option maxRecDepth 100000 in
set_option maxHeartbeats 2000000 in
theorem around_no (r p bps g : Int) (up : Bool) (w : World) (h : ¬ fitsP r bps g) :
    Calls Try.prog 116 #[.int .i64 r, .int .i64 p, .int .i64 bps, .int .i64 g, .bool up] w fun e w' => e = .returned (opt none) ∧ w' = w := by
  unfold fitsP at h
  by_cases h0 : r < 1
  · clear h
    go_enter Try.func116, Try.ntmps116
    go_wp2
    go_ret2
    exact ⟨rfl, rfl⟩
  by_cases h1 : 1099511627776 < r
  · clear h
    go_enter Try.func116, Try.ntmps116
    go_wp2
    go_ret2
    exact ⟨rfl, rfl⟩
  by_cases h2 : bps < 0
  · clear h
    go_enter Try.func116, Try.ntmps116
    go_wp2
    go_ret2
    exact ⟨rfl, rfl⟩
  by_cases h3 : 10000 ≤ bps
  · clear h
    go_enter Try.func116, Try.ntmps116
    go_wp2
    go_ret2
    exact ⟨rfl, rfl⟩
  by_cases h4 : g < 1
  · clear h
    go_enter Try.func116, Try.ntmps116
    go_wp2
    go_ret2
    exact ⟨rfl, rfl⟩
  by_cases h5 : 1099511627776 < g
  · clear h
    go_enter Try.func116, Try.ntmps116
    go_wp2
    go_ret2
    exact ⟨rfl, rfl⟩
  exact absurd (by omega) h
set_option maxRecDepth 100000 in
set_option maxHeartbeats 2000000 in
theorem around_in (r p bps g : Int) (up : Bool) (w : World) (h : fitsP r bps g) (hp : okI p) :
    Calls Try.prog 116 #[.int .i64 r, .int .i64 p, .int .i64 bps, .int .i64 g, .bool up] w fun e w' => e = .returned (opt (mulDivF r p 10000 up)) ∧ Below w.heap.size w w' := by
  obtain ⟨h0, h1, h2, h3, h4, h5⟩ := h
  have k0 : ¬ r < 1 := by omega
  have k1 : ¬ 1099511627776 < r := by omega
  have k2 : ¬ bps < 0 := by omega
  have k3 : ¬ 10000 ≤ bps := by omega
  have k4 : ¬ g < 1 := by omega
  have k5 : ¬ 1099511627776 < g := by omega
  have Hr : Hid (okI r) := hide (by unfold okI; omega)
  have Hp := hide hp
  clear hp
  go_enter Try.func116, Try.ntmps116
  go_wp2_with (fail)
  (with_reducible refine (muldiv_any r p 10000 up _ Hr.out Hp.out (by decide)).mono ?_)
  rintro e w1 ⟨rfl, hb1⟩
  have B1 := hide hb1
  clear hb1
  dsimp only
  rw [opt_split]
  go_wp2
  go_ret2
  exact ⟨by rw [opt_split]; rfl, B1.out⟩
set_option maxRecDepth 100000 in
set_option maxHeartbeats 2000000 in
theorem fits_any (r bps g : Int) (w : World) :
    Calls Try.prog 117 #[.int .i64 r, .int .i64 bps, .int .i64 g] w fun e w' => e = .returned (.bool (decide (fitsP r bps g))) ∧ w' = w := by
  by_cases h0 : 1 ≤ r
  rotate_left
  · have hf : ¬ fitsP r bps g := fun h => by unfold fitsP at h; omega
    rw [decide_eq_false hf]
    clear hf
    go_enter Try.func117, Try.ntmps117
    go_wp2
    go_ret
    exact ⟨rfl, rfl⟩
  by_cases h1 : r ≤ 1099511627776
  rotate_left
  · have hf : ¬ fitsP r bps g := fun h => by unfold fitsP at h; omega
    rw [decide_eq_false hf]
    clear hf
    go_enter Try.func117, Try.ntmps117
    go_wp2
    go_ret
    exact ⟨rfl, rfl⟩
  by_cases h2 : 0 ≤ bps
  rotate_left
  · have hf : ¬ fitsP r bps g := fun h => by unfold fitsP at h; omega
    rw [decide_eq_false hf]
    clear hf
    go_enter Try.func117, Try.ntmps117
    go_wp2
    go_ret
    exact ⟨rfl, rfl⟩
  by_cases h3 : bps ≤ 9999
  rotate_left
  · have hf : ¬ fitsP r bps g := fun h => by unfold fitsP at h; omega
    rw [decide_eq_false hf]
    clear hf
    go_enter Try.func117, Try.ntmps117
    go_wp2
    go_ret
    exact ⟨rfl, rfl⟩
  by_cases h4 : 1 ≤ g
  rotate_left
  · have hf : ¬ fitsP r bps g := fun h => by unfold fitsP at h; omega
    rw [decide_eq_false hf]
    clear hf
    go_enter Try.func117, Try.ntmps117
    go_wp2
    go_ret
    exact ⟨rfl, rfl⟩
  by_cases h5 : g ≤ 1099511627776
  rotate_left
  · have hf : ¬ fitsP r bps g := fun h => by unfold fitsP at h; omega
    rw [decide_eq_false hf]
    clear hf
    go_enter Try.func117, Try.ntmps117
    go_wp2
    go_ret
    exact ⟨rfl, rfl⟩
  rw [decide_eq_true (show fitsP r bps g from ⟨h0, h1, h2, h3, h4, h5⟩)]
  go_enter Try.func117, Try.ntmps117
  go_wp2
  go_ret
  exact ⟨rfl, rfl⟩

set_option maxRecDepth 100000 in
set_option maxHeartbeats 2000000 in
theorem lower_any (r bps g : Int) (w : World) (hg : okI g) :
    Calls Try.prog 54 #[.int .i64 r, .int .i64 bps, .int .i64 g] w fun e w' => e = .returned (opt (lowerF r bps g)) ∧ Below w.heap.size w w' := by
  by_cases hf : fitsP r bps g
  · have HO := hide (show lowerF r bps g = _ from if_pos hf)
    obtain ⟨h0, h1, h2, h3, h4, h5⟩ := hf
    have hpb := parts_bd (r := r) (p := 10000 - bps) (by omega) h1 (by omega) (by omega)
    have hce := ceil_bd hpb.1 hpb.2
    have HM := hide (muldiv_ceil (r := r) (p := 10000 - bps) (by omega) h1 (by omega) (by omega))
    have Hf := hide (show fitsP r bps g from ⟨h0, h1, h2, h3, h4, h5⟩)
    have Hp : Hid (okI (10000 - bps)) := hide (by unfold okI; omega)
    have Hc := hide hce.1
    have Hg := hide hg
    generalize hO : lowerF r bps g = O at *
    clear hpb hce hg hO
    go_enter Try.func54, Try.ntmps54
    go_wp2_with (fail)
    (with_reducible refine (around_in r (10000 - bps) bps g true _ Hf.out Hp.out).mono ?_)
    rintro e w1 ⟨rfl, hb1⟩
    have B1 := hide hb1
    clear hb1
    dsimp only
    rw [HM.out, opt_some]
    go_wp2_with (fail)
    (with_reducible refine (fixup_any _ g _ Hc.out Hg.out).mono ?_)
    rintro e w2 ⟨rfl, rfl⟩
    dsimp only
    rw [opt_split]
    go_wp2
    go_ret2
    exact ⟨by rw [HO.out, opt_split]; rfl, B1.out⟩
  · have HO := hide (show lowerF r bps g = _ from if_neg hf)
    generalize hO : lowerF r bps g = O at *
    have Hf := hide hf
    clear hf hg hO
    go_enter Try.func54, Try.ntmps54
    go_wp2_with (fail)
    (with_reducible refine (around_no r _ bps g true _ Hf.out).mono ?_)
    rintro e w1 ⟨rfl, rfl⟩
    dsimp only
    rw [opt_none]
    go_wp2
    go_ret2
    exact ⟨by rw [HO.out]; rfl, Below.refl _ _⟩
set_option maxRecDepth 100000 in
set_option maxHeartbeats 2000000 in
theorem upper_any (r bps g : Int) (w : World) (hg : okI g) :
    Calls Try.prog 56 #[.int .i64 r, .int .i64 bps, .int .i64 g] w fun e w' => e = .returned (opt (upperF r bps g)) ∧ Below w.heap.size w w' := by
  by_cases hf : fitsP r bps g
  · have HO := hide (show upperF r bps g = _ from if_pos hf)
    obtain ⟨h0, h1, h2, h3, h4, h5⟩ := hf
    have hpb := parts_bd (r := r) (p := 10000 + bps) (by omega) h1 (by omega) (by omega)
    have HM := hide (muldiv_floor (r := r) (p := 10000 + bps) (by omega) h1 (by omega) (by omega))
    have Hf := hide (show fitsP r bps g from ⟨h0, h1, h2, h3, h4, h5⟩)
    have Hp : Hid (okI (10000 + bps)) := hide (by unfold okI; omega)
    have Hc : Hid (okI (r * (10000 + bps) / 10000)) := hide (by unfold okI; omega)
    have Hg := hide hg
    generalize hO : upperF r bps g = O at *
    clear hpb hg hO
    go_enter Try.func56, Try.ntmps56
    go_wp2_with (fail)
    (with_reducible refine (around_in r (10000 + bps) bps g false _ Hf.out Hp.out).mono ?_)
    rintro e w1 ⟨rfl, hb1⟩
    have B1 := hide hb1
    clear hb1
    dsimp only
    rw [HM.out, opt_some]
    go_wp2_with (fail)
    (with_reducible refine (down_any _ g _ Hc.out Hg.out).mono ?_)
    rintro e w2 ⟨rfl, rfl⟩
    dsimp only
    go_wp2
    go_ret2
    exact ⟨by rw [HO.out]; rfl, B1.out⟩
  · have HO := hide (show upperF r bps g = _ from if_neg hf)
    generalize hO : upperF r bps g = O at *
    have Hf := hide hf
    clear hf hg hO
    go_enter Try.func56, Try.ntmps56
    go_wp2_with (fail)
    (with_reducible refine (around_no r _ bps g false _ Hf.out).mono ?_)
    rintro e w1 ⟨rfl, rfl⟩
    dsimp only
    rw [opt_none]
    go_wp2
    go_ret2
    exact ⟨by rw [HO.out]; rfl, Below.refl _ _⟩
set_option maxRecDepth 100000 in
set_option maxHeartbeats 2000000 in
theorem reflower_any (r bps g : Int) (w : World) (hg : okI g) :
    Calls Try.prog 55 #[.int .i64 r, .int .i64 bps, .int .i64 g] w fun e w' => e = .returned (opt (lowerF r bps g)) ∧ Below w.heap.size w w' := by
  by_cases hf : fitsP r bps g
  · have HO := hide (show lowerF r bps g = _ from if_pos hf)
    have HF := hide (decide_eq_true hf)
    obtain ⟨h0, h1, h2, h3, h4, h5⟩ := hf
    obtain ⟨n0, n1⟩ := parts_bd (r := r) (p := 10000 - bps) (by omega) h1 (by omega) (by omega)
    have hce := ceil_bd n0 n1
    have Hc := hide hce.1
    have Hg := hide hg
    have hW : wrap64 (r * (10000 - bps)) = r * (10000 - bps) := wrap64_id (by unfold okI; omega)
    have HW := hide hW
    generalize hO : lowerF r bps g = O at *
    clear hce hg hO hW
    by_cases hz : 0 < r * (10000 - bps) % 10000
    · have hv : ceilV (r * (10000 - bps)) = r * (10000 - bps) / 10000 + 1 := by unfold ceilV; rw [if_pos hz]
      have HV := hide hv
      clear hv
      go_enter Try.func55, Try.ntmps55
      go_wp2_with (fail)
      (with_reducible refine (fits_any r bps g _).mono ?_)
      rintro e w1 ⟨rfl, rfl⟩
      dsimp only
      rw [HF.out]
      go_wp2_with (fail)
      (with_reducible refine (refup_any (r * (10000 - bps) / 10000 + 1) g _ (by rw [← HV.out]; exact Hc.out) Hg.out).mono ?_)
      rintro e w1 ⟨rfl, hb1⟩
      have B1 := hide hb1
      clear hb1
      dsimp only
      rw [opt_split]
      go_wp2
      go_ret2
      exact ⟨by rw [HO.out, HV.out, opt_split]; rfl, B1.out⟩
    · have hv : ceilV (r * (10000 - bps)) = r * (10000 - bps) / 10000 := by unfold ceilV; rw [if_neg hz]
      have HV := hide hv
      clear hv
      go_enter Try.func55, Try.ntmps55
      go_wp2_with (fail)
      (with_reducible refine (fits_any r bps g _).mono ?_)
      rintro e w1 ⟨rfl, rfl⟩
      dsimp only
      rw [HF.out]
      go_wp2_with (fail)
      (with_reducible refine (refup_any (r * (10000 - bps) / 10000) g _ (by rw [← HV.out]; exact Hc.out) Hg.out).mono ?_)
      rintro e w1 ⟨rfl, hb1⟩
      have B1 := hide hb1
      clear hb1
      dsimp only
      rw [opt_split]
      go_wp2
      go_ret2
      exact ⟨by rw [HO.out, HV.out, opt_split]; rfl, B1.out⟩
  · have HO := hide (show lowerF r bps g = _ from if_neg hf)
    have HF := hide (decide_eq_false hf)
    generalize hO : lowerF r bps g = O at *
    clear hf hg hO
    go_enter Try.func55, Try.ntmps55
    go_wp2_with (fail)
    (with_reducible refine (fits_any r bps g _).mono ?_)
    rintro e w1 ⟨rfl, rfl⟩
    dsimp only
    rw [HF.out]
    go_wp2
    go_ret2
    exact ⟨by rw [HO.out]; rfl, Below.refl _ _⟩
set_option maxRecDepth 100000 in
set_option maxHeartbeats 2000000 in
theorem refupper_any (r bps g : Int) (w : World) (hg : okI g) :
    Calls Try.prog 57 #[.int .i64 r, .int .i64 bps, .int .i64 g] w fun e w' => e = .returned (opt (upperF r bps g)) ∧ w' = w := by
  by_cases hf : fitsP r bps g
  · have HO := hide (show upperF r bps g = _ from if_pos hf)
    have HF := hide (decide_eq_true hf)
    obtain ⟨h0, h1, h2, h3, h4, h5⟩ := hf
    obtain ⟨n0, n1⟩ := parts_bd (r := r) (p := 10000 + bps) (by omega) h1 (by omega) (by omega)
    have Hc : Hid (okI (r * (10000 + bps) / 10000)) := hide (by unfold okI; omega)
    have Hg := hide hg
    generalize hO : upperF r bps g = O at *
    clear hg hO
    go_enter Try.func57, Try.ntmps57
    go_wp2_with (fail)
    (with_reducible refine (fits_any r bps g _).mono ?_)
    rintro e w1 ⟨rfl, rfl⟩
    dsimp only
    rw [HF.out]
    go_wp2_with (fail)
    (with_reducible refine (refdown_any (r * (10000 + bps) / 10000) g _ Hc.out Hg.out).mono ?_)
    rintro e w1 ⟨rfl, rfl⟩
    dsimp only
    go_wp2
    go_ret2
    exact ⟨by rw [HO.out]; rfl, rfl⟩
  · have HO := hide (show upperF r bps g = _ from if_neg hf)
    have HF := hide (decide_eq_false hf)
    generalize hO : upperF r bps g = O at *
    clear hf hg hO
    go_enter Try.func57, Try.ntmps57
    go_wp2_with (fail)
    (with_reducible refine (fits_any r bps g _).mono ?_)
    rintro e w1 ⟨rfl, rfl⟩
    dsimp only
    rw [HF.out]
    go_wp2
    go_ret2
    exact ⟨by rw [HO.out]; rfl, rfl⟩
set_option maxRecDepth 100000 in
set_option maxHeartbeats 2000000 in
theorem alive02_any (w : World) : Calls Try.prog 48 #[] w fun e w' => e = .returned (.bool true) ∧ Below w.heap.size w w' := by
  go_enter Try.func48, Try.ntmps48
  go_wp2_with (fail)
  (with_reducible refine (lower_any 1000 500 7 _ (by decide)).mono ?_)
  rintro e w1 ⟨rfl, hb1⟩
  have B1 := hide hb1
  clear hb1
  rw [show lowerF 1000 500 7 = some 952 by decide, opt_some]
  dsimp only
  go_wp2_with (fail)
  (with_reducible refine (upper_any 1000 500 7 _ (by decide)).mono ?_)
  rintro e w2 ⟨rfl, hb2⟩
  have B2 := hide (B1.out.trans (hb2.mono B1.out.size))
  clear hb2
  rw [show upperF 1000 500 7 = some 1050 by decide, opt_some]
  dsimp only
  go_wp2
  go_ret
  exact ⟨rfl, B2.out⟩
end Go.Proofs.Ytadilccdipcmnaa
