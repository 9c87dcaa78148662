/- The laws on numbers of 128 bits: what they call beyond the numbers themselves: the example, and that a number is these bits. Arguments: words from 0 to 2^64 - 1, arrays of 128 bits. -/
import Derived.Test.YtadilccdipcmnaaWideE
namespace Go.Proofs.Ytadilccdipcmnaa
open Go Go.RowKit
attribute [local go_sem] field_two0 field_two1

theorem example_text : dec 36893488147419103232 = [51, 54, 56, 57, 51, 52, 56, 56, 49, 52, 55, 52, 49, 57, 49, 48, 51, 50, 51, 50] := by
  simp [dec_more, dec_last, digit]
set_option maxRecDepth 100000 in
set_option maxHeartbeats 1000000 in
theorem alive_any (w : World) : Calls Try.prog 26 #[] w fun e w' => e = .returned (.bool true) ∧ Below w.heap.size w w' := by
  go_enter Try.func26, Try.ntmps26
  go_wp2_with (fail)
  (with_reducible refine (mul_any 9223372036854775808 4 _ (by decide) (by decide) (by decide) (by decide)).mono ?_)
  rintro e w1 ⟨rfl, hb1⟩
  dsimp only
  rw [show (9223372036854775808 : Int) * 4 / M64 = 2 by decide, show (9223372036854775808 : Int) * 4 % M64 = 0 by decide]
  have B1 := hide hb1
  have R1 : Two (w1.alloc (.cells #[.int .u64 2, .int .u64 0] 25)) w1.heap.size (.int .u64 2) (.int .u64 0) := Two.new _ _ _
  clear hb1
  go_wp2_with (((with_reducible apply eq_step); exact rfl; exact rfl; exact rfl; exact rfl; simp only [Act.put, List.setIfInBounds_toArray, List.set_cons_zero, List.set_cons_succ]))
  (with_reducible refine (wtext_any 2 0 _ (by decide) (by decide) (by decide) (by decide)).mono ?_)
  rintro e w2 ⟨rfl, hb2⟩
  dsimp only
  rw [show (wv 2 0).toNat = 36893488147419103232 by decide, example_text]
  have B2 := hide ((B1.out.alloc B1.out.size _).trans (hb2.mono (by have := B1.out.size; simp <;> omega)))
  clear hb2 B1 R1
  go_wp2
  go_ret
  exact ⟨rfl, B2.out⟩

set_option maxRecDepth 100000 in
set_option maxHeartbeats 1000000 in
theorem is_any (h l x : Int) (w : World) (hl : 0 ≤ l) (hl2 : l < M64) (h0 : 0 ≤ x) (hx : x < M128) :
    Calls Try.prog 23 #[.agg #[.int .u64 h, .int .u64 l], .agg (bf (bitF x))] w fun e w' => e = .returned (.bool (decide (wv h l = x))) ∧ Below w.heap.size w w' := by
  go_enter Try.func23, Try.ntmps23
  go_wp2_with (first | ((with_reducible apply load_row); exact rfl; exact rfl; exact rfl; focus ((repeat' (first | (with_reducible assumption) | ((with_reducible apply Row.zero'); simp; done) | ((with_reducible apply Row.new'); simp; done) | (with_reducible apply Row.setRow) | (with_reducible apply Row.setRow_other) | (with_reducible apply Row.alloc) | (with_reducible apply Row.drew) | (simp; done) | (simp; omega))); done)) | ((with_reducible apply store_row); exact rfl; exact rfl; exact rfl; exact rfl; focus ((repeat' (first | (with_reducible assumption) | ((with_reducible apply Row.zero'); simp; done) | ((with_reducible apply Row.new'); simp; done) | (with_reducible apply Row.setRow) | (with_reducible apply Row.setRow_other) | (with_reducible apply Row.alloc) | (with_reducible apply Row.drew) | (simp; done) | (simp; omega))); done)))
  (with_reducible refine (halves_any x _ h0 hx).mono ?_)
  rintro e w1 ⟨rfl, hb1⟩
  dsimp only
  have tA : Two w1 w.heap.size (.int .u64 h) (.int .u64 l) := ((Two.new w _ _).alloc _).below hb1 (by simp <;> omega)
  have B1 := hide ((((Below.refl w.heap.size w).alloc (Nat.le_refl _) (.cells #[.int .u64 h, .int .u64 l] 25)).alloc (by simp) (.cells (bf (bitF x)) 28)).trans (hb1.mono (by simp <;> omega)))
  clear hb1
  have c1 := tA.c0
  have c2 := tA.c1
  have HA := hide tA
  clear tA
  have hh' : 0 ≤ x % M64 ∧ x % M64 < M64 := by rw [M64_eq]; omega
  by_cases e1 : h = x / M64
  · by_cases e2 : l = x % M64
    · have q1 : (h == x / M64) = true := by simpa using e1
      have q2 : (l == x % M64) = true := by simpa using e2
      have q := hide (show wv h l = x by unfold wv; rw [e1, e2]; rw [M64_eq]; omega)
      clear e1 e2 hh'
      go_wp2
      go_ret
      exact ⟨by rw [decide_eq_true q.out]; rfl, B1.out⟩
    · have q1 : (h == x / M64) = true := by simpa using e1
      have q2 : (l == x % M64) = false := by simpa using e2
      have q := hide (show ¬ wv h l = x by unfold wv; rw [M64_eq] at *; omega)
      clear e1 e2 hh'
      go_wp2
      go_ret
      exact ⟨by rw [decide_eq_false q.out]; rfl, B1.out⟩
  · have q1 : (h == x / M64) = false := by simpa using e1
    have q := hide (show ¬ wv h l = x by unfold wv; rw [M64_eq] at *; omega)
    clear e1 hh'
    go_wp2
    go_ret
    exact ⟨by rw [decide_eq_false q.out]; rfl, B1.out⟩
end Go.Proofs.Ytadilccdipcmnaa
