/- Package window and reference 19: a price's check, and which price has moved. Arguments: any int64. -/
import Derived.Test.YtadilccdipcmnaaFixH
namespace Go.Proofs.Ytadilccdipcmnaa
open Go Go.RowKit

def pricedF (p g : Int) : Bool := priceF p g == 0
set_option maxRecDepth 100000 in
set_option maxHeartbeats 4000000 in
theorem priced_any (p g : Int) (w : World) (hp : okI p) (hg : okI g) :
    Calls Try.prog 126 #[.int .i64 p, .int .i64 g] w fun e w' => e = .returned (.bool (pricedF p g)) ∧ w' = w := by
  have Hp := hide hp
  have Hg := hide hg
  clear hp hg
  obtain ⟨v, hv⟩ : ∃ v, v = priceF p g := ⟨_, rfl⟩
  have HV := hide hv
  go_enter Try.func126, Try.ntmps126
  go_wp2_with (fail)
  (with_reducible refine (price_any p g _ Hp.out Hg.out).mono ?_)
  rintro e w1 ⟨rfl, rfl⟩
  rw [← hv]
  clear hv
  dsimp only
  go_wp2
  go_ret
  exact ⟨by unfold pricedF; rw [← HV.out]; rfl, rfl⟩
set_option maxRecDepth 100000 in
set_option maxHeartbeats 4000000 in
theorem refpriced_any (p g : Int) (w : World) (hp : okI p) (hg : okI g) :
    Calls Try.prog 129 #[.int .i64 p, .int .i64 g] w fun e w' => e = .returned (.bool (pricedF p g)) ∧ w' = w := by
  have Hp := hide hp
  have Hg := hide hg
  clear hp hg
  obtain ⟨v, hv⟩ : ∃ v, v = priceF p g := ⟨_, rfl⟩
  have HV := hide hv
  go_enter Try.func129, Try.ntmps129
  go_wp2_with (fail)
  (with_reducible refine (refprice_any p g _ Hp.out Hg.out).mono ?_)
  rintro e w1 ⟨rfl, rfl⟩
  rw [← hv]
  clear hv
  dsimp only
  go_wp2
  go_ret
  exact ⟨by unfold pricedF; rw [← HV.out]; rfl, rfl⟩
theorem priced_one (p : Int) : pricedF p 1 = decide (1 ≤ p ∧ p ≤ 1099511627776) := by
  unfold pricedF priceF
  rw [if_neg (by decide)]
  by_cases h : p < 1 ∨ 1099511627776 < p
  · rw [if_pos h, decide_eq_false (by omega)]
    rfl
  · rw [if_neg h, if_pos (by omega), decide_eq_true (by omega)]
    rfl
def moveP (a b k : Int) : Prop := (1 ≤ a ∧ a ≤ 1099511627776) ∧ (1 ≤ b ∧ b ≤ 1099511627776) ∧ (0 ≤ k ∧ k < 10000) ∧ a ≠ b
instance (a b k : Int) : Decidable (moveP a b k) := by
  unfold moveP
  infer_instance
def movedF (a b k : Int) : Bool := decide (moveP a b k ∧ a * k ≤ (if a < b then b - a else a - b) * 10000)
theorem moved_no {a b k : Int} (h : ¬ moveP a b k) : movedF a b k = false := decide_eq_false (fun g => h g.1)
theorem mul_bds {a k : Int} (h1 : 1 ≤ a) (h2 : a ≤ 1099511627776) (h3 : 0 ≤ k) (h4 : k < 10000) : 0 ≤ a * k ∧ a * k ≤ 10995116277760000 := by
  have e1 := Int.mul_nonneg (show 0 ≤ a by omega) h3
  have e2 := Int.mul_le_mul_of_nonneg_right h2 h3
  omega
set_option maxRecDepth 100000 in
set_option maxHeartbeats 4000000 in
theorem moved_any (a b k : Int) (w : World) (ha : okI a) (hb : okI b) :
    Calls Try.prog 91 #[.int .i64 a, .int .i64 b, .int .i64 k] w fun e w' => e = .returned (.bool (movedF a b k)) ∧ w' = w := by
  have Ha := hide ha
  have Hb := hide hb
  clear ha hb
  have HA := hide (priced_one a)
  have HB := hide (priced_one b)
  by_cases p : 1 ≤ a ∧ a ≤ 1099511627776
  rotate_left
  · rw [moved_no (fun h => p h.1)]
    have HP := hide (decide_eq_false p)
    clear p
    go_enter Try.func91, Try.ntmps91
    go_wp2_with (fail)
    (with_reducible refine (priced_any a 1 _ Ha.out (by decide)).mono ?_)
    rintro e w1 ⟨rfl, rfl⟩
    rw [HA.out, HP.out]
    dsimp only
    go_wp2
    go_ret
    exact ⟨rfl, rfl⟩
  have HP := hide (decide_eq_true p)
  by_cases q : 1 ≤ b ∧ b ≤ 1099511627776
  rotate_left
  · rw [moved_no (fun h => q h.2.1)]
    have HQ := hide (decide_eq_false q)
    clear p q
    go_enter Try.func91, Try.ntmps91
    go_wp2_with (fail)
    (with_reducible refine (priced_any a 1 _ Ha.out (by decide)).mono ?_)
    rintro e w1 ⟨rfl, rfl⟩
    rw [HA.out, HP.out]
    dsimp only
    go_wp2_with (fail)
    (with_reducible refine (priced_any b 1 _ Hb.out (by decide)).mono ?_)
    rintro e w1 ⟨rfl, rfl⟩
    rw [HB.out, HQ.out]
    dsimp only
    go_wp2
    go_ret
    exact ⟨rfl, rfl⟩
  have HQ := hide (decide_eq_true q)
  by_cases c : k < 0
  · rw [moved_no (fun h => by have := h.2.2.1; omega)]
    clear p q
    go_enter Try.func91, Try.ntmps91
    go_wp2_with (fail)
    (with_reducible refine (priced_any a 1 _ Ha.out (by decide)).mono ?_)
    rintro e w1 ⟨rfl, rfl⟩
    rw [HA.out, HP.out]
    dsimp only
    go_wp2_with (fail)
    (with_reducible refine (priced_any b 1 _ Hb.out (by decide)).mono ?_)
    rintro e w1 ⟨rfl, rfl⟩
    rw [HB.out, HQ.out]
    dsimp only
    go_wp2
    go_ret
    exact ⟨rfl, rfl⟩
  have c1 := c
  clear c
  by_cases c : 10000 ≤ k
  · rw [moved_no (fun h => by have := h.2.2.1; omega)]
    clear p q
    go_enter Try.func91, Try.ntmps91
    go_wp2_with (fail)
    (with_reducible refine (priced_any a 1 _ Ha.out (by decide)).mono ?_)
    rintro e w1 ⟨rfl, rfl⟩
    rw [HA.out, HP.out]
    dsimp only
    go_wp2_with (fail)
    (with_reducible refine (priced_any b 1 _ Hb.out (by decide)).mono ?_)
    rintro e w1 ⟨rfl, rfl⟩
    rw [HB.out, HQ.out]
    dsimp only
    go_wp2
    go_ret
    exact ⟨rfl, rfl⟩
  have c2 := c
  clear c
  by_cases c : a = b
  · rw [moved_no (fun h => h.2.2.2 c)]
    clear p q
    subst c
    have c2 : (a == a) = true := by simp
    go_enter Try.func91, Try.ntmps91
    go_wp2_with (fail)
    (with_reducible refine (priced_any a 1 _ Ha.out (by decide)).mono ?_)
    rintro e w1 ⟨rfl, rfl⟩
    rw [HA.out, HP.out]
    dsimp only
    go_wp2_with (fail)
    (with_reducible refine (priced_any a 1 _ Ha.out (by decide)).mono ?_)
    rintro e w1 ⟨rfl, rfl⟩
    rw [HB.out, HQ.out]
    dsimp only
    go_wp2
    go_ret
    exact ⟨rfl, rfl⟩
  have cne : (a == b) = false := by simpa using c
  have hM : moveP a b k := ⟨p, q, by omega, c⟩
  obtain ⟨m0, m1⟩ := mul_bds p.1 p.2 (by omega) (by omega : k < 10000)
  by_cases d : a < b
  · have HM : Hid (movedF a b k = decide (a * k ≤ (b - a) * 10000)) := hide (by unfold movedF; rw [if_pos d]; simp [hM])
    have e1 : (a - b) / 9223372036854775808 = -1 := by omega
    have e2 : bits .xor .i64 (a - b) (-1) = b - a - 1 := by rw [xor_minus (by unfold okI; omega)]; omega
    obtain ⟨p1, p2⟩ := p
    obtain ⟨q1, q2⟩ := q
    clear hM
    go_enter Try.func91, Try.ntmps91
    go_wp2_with (fail)
    (with_reducible refine (priced_any a 1 _ Ha.out (by decide)).mono ?_)
    rintro e w1 ⟨rfl, rfl⟩
    rw [HA.out, HP.out]
    dsimp only
    go_wp2_with (fail)
    (with_reducible refine (priced_any b 1 _ Hb.out (by decide)).mono ?_)
    rintro e w1 ⟨rfl, rfl⟩
    rw [HB.out, HQ.out]
    dsimp only
    go_wp2
    go_ret
    exact ⟨by rw [HM.out]; congr 3, rfl⟩
  · have HM : Hid (movedF a b k = decide (a * k ≤ (a - b) * 10000)) := hide (by unfold movedF; rw [if_neg d]; simp [hM])
    have e1 : (a - b) / 9223372036854775808 = 0 := by omega
    have e2 : bits .xor .i64 (a - b) 0 = a - b := xor_none (by unfold okI; omega)
    obtain ⟨p1, p2⟩ := p
    obtain ⟨q1, q2⟩ := q
    clear hM
    go_enter Try.func91, Try.ntmps91
    go_wp2_with (fail)
    (with_reducible refine (priced_any a 1 _ Ha.out (by decide)).mono ?_)
    rintro e w1 ⟨rfl, rfl⟩
    rw [HA.out, HP.out]
    dsimp only
    go_wp2_with (fail)
    (with_reducible refine (priced_any b 1 _ Hb.out (by decide)).mono ?_)
    rintro e w1 ⟨rfl, rfl⟩
    rw [HB.out, HQ.out]
    dsimp only
    go_wp2
    go_ret
    exact ⟨by rw [HM.out]; congr 3, rfl⟩
set_option maxRecDepth 100000 in
set_option maxHeartbeats 4000000 in
theorem refmoved_any (a b k : Int) (w : World) :
    Calls Try.prog 92 #[.int .i64 a, .int .i64 b, .int .i64 k] w fun e w' => e = .returned (.bool (movedF a b k)) ∧ w' = w := by
  by_cases c1 : a < 1
  · rw [moved_no (fun h => by have := h.1; omega)]
    go_enter Try.func92, Try.ntmps92
    go_wp2
    go_ret
    exact ⟨rfl, rfl⟩
  by_cases c2 : 1099511627776 < a
  · rw [moved_no (fun h => by have := h.1; omega)]
    go_enter Try.func92, Try.ntmps92
    go_wp2
    go_ret
    exact ⟨rfl, rfl⟩
  by_cases c3 : b < 1
  · rw [moved_no (fun h => by have := h.2.1; omega)]
    go_enter Try.func92, Try.ntmps92
    go_wp2
    go_ret
    exact ⟨rfl, rfl⟩
  by_cases c4 : 1099511627776 < b
  · rw [moved_no (fun h => by have := h.2.1; omega)]
    go_enter Try.func92, Try.ntmps92
    go_wp2
    go_ret
    exact ⟨rfl, rfl⟩
  by_cases c5 : k < 0
  · rw [moved_no (fun h => by have := h.2.2.1; omega)]
    go_enter Try.func92, Try.ntmps92
    go_wp2
    go_ret
    exact ⟨rfl, rfl⟩
  by_cases c6 : 9999 < k
  · rw [moved_no (fun h => by have := h.2.2.1; omega)]
    go_enter Try.func92, Try.ntmps92
    go_wp2
    go_ret
    exact ⟨rfl, rfl⟩
  by_cases c7 : a = b
  · rw [moved_no (fun h => h.2.2.2 c7)]
    have c8 : (a == b) = true := by simpa using c7
    go_enter Try.func92, Try.ntmps92
    go_wp2
    go_ret
    exact ⟨rfl, rfl⟩
  have cne : (a == b) = false := by simpa using c7
  have hM : moveP a b k := ⟨by omega, by omega, by omega, c7⟩
  obtain ⟨m0, m1⟩ := mul_bds (a := a) (k := k) (by omega) (by omega) (by omega) (by omega)
  by_cases d : a < b
  · have HM : Hid (movedF a b k = decide (a * k ≤ (b - a) * 10000)) := hide (by unfold movedF; rw [if_pos d]; simp [hM])
    have e1 : max a b = b := by omega
    have e2 : min a b = a := by omega
    clear hM
    go_enter Try.func92, Try.ntmps92
    go_wp2
    go_ret
    exact ⟨by rw [HM.out]; rfl, rfl⟩
  · have HM : Hid (movedF a b k = decide (a * k ≤ (a - b) * 10000)) := hide (by unfold movedF; rw [if_neg d]; simp [hM])
    have e1 : max a b = a := by omega
    have e2 : min a b = b := by omega
    clear hM
    go_enter Try.func92, Try.ntmps92
    go_wp2
    go_ret
    exact ⟨by rw [HM.out]; rfl, rfl⟩
end Go.Proofs.Ytadilccdipcmnaa
