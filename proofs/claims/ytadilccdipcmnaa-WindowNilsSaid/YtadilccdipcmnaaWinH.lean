/- The laws WindowMoves and WindowNils: the walks. -/
import Derived.Test.YtadilccdipcmnaaWinG
namespace Go.Proofs.Ytadilccdipcmnaa
open Go Go.RowKit

set_option maxRecDepth 100000 in
set_option maxHeartbeats 4000000 in
theorem windowMoves_w (a b k : Int) (w : World) (ha : okI a) (hb : okI b) :
    Calls Try.prog 20 #[.int .i64 a, .int .i64 b, .int .i64 k] w fun e w' => e = .returned (.bool true) ∧ Below w.heap.size w w' := by
  have Ha := hide ha
  have Hb := hide hb
  clear ha hb
  obtain ⟨m, hm⟩ : ∃ m, m = movedF a b k := ⟨_, rfl⟩
  have HM := hide hm
  clear hm
  go_enter Try.func20, Try.ntmps20
  go_wp2_with (fail)
  (with_reducible refine (moved_any a b k _ Ha.out Hb.out).mono ?_)
  rintro e w ⟨rfl, rfl⟩
  rw [← HM.out]
  dsimp only
  go_wp2_with (fail)
  (with_reducible refine (refmoved_any a b k _).mono ?_)
  rintro e w ⟨rfl, rfl⟩
  rw [← HM.out]
  dsimp only
  go_wp2_with (fail)
  (with_reducible refine (alive19_any _).mono ?_)
  rintro e w1 ⟨rfl, hb⟩
  have B := hide hb
  clear hb
  dsimp only
  go_wp2
  go_ret
  exact ⟨rfl, B.out⟩
set_option maxRecDepth 100000 in
set_option maxHeartbeats 4000000 in
theorem windowNils_w (a b c : Int) (w : World) :
    Calls Try.prog 22 #[.int .i64 a, .int .i64 b, .int .i64 c] w fun e w' => e = .returned (.bool true) ∧ Below w.heap.size w w' := by
  go_enter Try.func22, Try.ntmps22
  go_wp2_with (fail)
  (with_reducible refine (mean_nil a _).mono ?_)
  rintro e w ⟨rfl, rfl⟩
  dsimp only
  go_wp2_with (fail)
  (with_reducible refine (roll_nil a 5 _).mono ?_)
  rintro e w ⟨rfl, rfl⟩
  dsimp only
  go_wp2_with (fail)
  (with_reducible refine (add_nil a b c _).mono ?_)
  rintro e w ⟨rfl, rfl⟩
  dsimp only
  go_wp2_with (fail)
  (with_reducible refine (reset_nil b _).mono ?_)
  rintro e w ⟨rfl, rfl⟩
  dsimp only
  go_wp2_with (fail)
  (with_reducible refine (ref_nil _).mono ?_)
  rintro e w ⟨rfl, rfl⟩
  dsimp only
  go_wp2_with (fail)
  (with_reducible refine (len_nil _).mono ?_)
  rintro e w ⟨rfl, rfl⟩
  dsimp only
  go_wp2_with (fail)
  (with_reducible refine (alive19_any _).mono ?_)
  rintro e w1 ⟨rfl, hb⟩
  have B := hide hb
  clear hb
  dsimp only
  go_wp2
  go_ret
  exact ⟨rfl, B.out⟩
end Go.Proofs.Ytadilccdipcmnaa
