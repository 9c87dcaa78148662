/- The law WideMuls: the walk. -/
import Derived.Test.YtadilccdipcmnaaLawA
namespace Go.Proofs.Ytadilccdipcmnaa
open Go Go.RowKit
attribute [local go_sem] field_two0 field_two1

theorem ret_true {x : Bool} (h : x = true) : Ending.returned (.bool x) = .returned (.bool true) := by rw [h]
set_option maxRecDepth 100000 in
set_option maxHeartbeats 1000000 in
theorem wideMuls_walk (a b : Int) (w : World) (ha : 0 ≤ a) (hb : 0 ≤ b) (ha2 : a < M64) (hb2 : b < M64) :
    Calls Try.prog 3 #[.int .u64 a, .int .u64 b] w fun e w' => e = .returned (.bool true) ∧ Below w.heap.size w w' := by
  obtain ⟨p0, p1⟩ := mul_bd ha hb ha2 hb2
  have hq : 0 ≤ a * b / M64 ∧ a * b / M64 < M64 ∧ 0 ≤ a * b % M64 ∧ a * b % M64 < M64 := by rw [M64_eq]; rw [M128_eq] at p1; omega
  obtain ⟨q0, q1, q2, q3⟩ := hq
  have hE := hide (show wv (a * b / M64) (a * b % M64) = a * b by unfold wv; rw [M64_eq]; omega)
  go_enter Try.func3, Try.ntmps3
  go_wp2_with (fail)
  (with_reducible refine (mul_any a b _ ha hb ha2 hb2).mono ?_)
  rintro e w1 ⟨rfl, hb1⟩
  have B1 := hide hb1
  clear hb1
  dsimp only
  go_wp2_with (fail)
  (with_reducible refine (refmul_any a b _ ha hb ha2 hb2).mono ?_)
  rintro e w2 ⟨rfl, hb2⟩
  have B2 := hide (B1.out.trans (hb2.mono B1.out.size))
  clear hb2 B1
  dsimp only
  go_wp2_with (fail)
  (with_reducible refine (is_any _ _ (a * b) _ q2 q3 p0 p1).mono ?_)
  rintro e w3 ⟨rfl, hb3⟩
  have B3 := hide (B2.out.trans (hb3.mono B2.out.size))
  clear hb3 B2
  dsimp only
  rw [decide_eq_true hE.out]
  go_wp2_with (fail)
  (with_reducible refine (alive_any _).mono ?_)
  rintro e w4 ⟨rfl, hb4⟩
  have B4 := hide (B3.out.trans (hb4.mono B3.out.size))
  clear hb4 B3
  dsimp only
  go_wp2
  go_ret
  exact ⟨rfl, B4.out⟩

theorem of_bd {a b : Int} (ha : 0 ≤ a) (hb : 0 ≤ b) (ha2 : a < M64) (hb2 : b < M64) : 0 ≤ a * M64 + b ∧ a * M64 + b < M128 := by
  rw [M64_eq] at *
  rw [M128_eq]
  omega
set_option maxRecDepth 100000 in
set_option maxHeartbeats 1000000 in
theorem wideTexts_walk (a b : Int) (w : World) (ha : 0 ≤ a) (hb : 0 ≤ b) (ha2 : a < M64) (hb2 : b < M64) :
    Calls Try.prog 6 #[.int .u64 a, .int .u64 b] w fun e w' => e = .returned (.bool true) ∧ Below w.heap.size w w' := by
  obtain ⟨p0, p1⟩ := of_bd ha hb ha2 hb2
  go_enter Try.func6, Try.ntmps6
  go_wp2_with (fail)
  (with_reducible refine (wtext_any a b _ ha hb ha2 hb2).mono ?_)
  rintro e w1 ⟨rfl, hb1⟩
  have B1 := hide (((Below.refl w.heap.size w).alloc (Nat.le_refl _) _).trans (hb1.mono (by simp <;> omega)))
  clear hb1
  dsimp only
  go_wp2_with (fail)
  (with_reducible refine (of_any a b _ ha hb ha2 hb2).mono ?_)
  rintro e w2 ⟨rfl, hb2⟩
  have B2 := hide (B1.out.trans (hb2.mono B1.out.size))
  clear hb2 B1
  dsimp only
  go_wp2_with (fail)
  (with_reducible refine (reftext_any (a * M64 + b) _ p0 p1).mono ?_)
  rintro e w3 ⟨rfl, hb3⟩
  have B3 := hide (B2.out.trans (hb3.mono B2.out.size))
  clear hb3 B2
  dsimp only
  rw [show wv a b = a * M64 + b from rfl]
  generalize (⟨(dec (a * M64 + b).toNat).toArray⟩ : ByteArray) = S
  go_wp2_with (fail)
  (with_reducible refine (alive_any _).mono ?_)
  rintro e w4 ⟨rfl, hb4⟩
  have B4 := hide (B3.out.trans (hb4.mono B3.out.size))
  clear hb4 B3
  dsimp only
  go_wp2
  go_ret
  exact ⟨rfl, B4.out⟩
end Go.Proofs.Ytadilccdipcmnaa
