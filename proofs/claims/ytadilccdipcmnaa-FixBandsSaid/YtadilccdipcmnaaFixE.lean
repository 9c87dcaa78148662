/- The laws FixDivs, FixGrids, FixBands: the walks. -/
import Derived.Test.YtadilccdipcmnaaFixD
namespace Go.Proofs.Ytadilccdipcmnaa
open Go Go.RowKit

set_option maxRecDepth 100000 in
set_option maxHeartbeats 2000000 in
theorem fixDivs_w (a b d : Int) (up : Bool) (w : World) (ha : okI a) (hb : okI b) (hd : okI d) :
    Calls Try.prog 9 #[.int .i64 a, .int .i64 b, .int .i64 d, .bool up] w fun e w' => e = .returned (.bool true) ∧ Below w.heap.size w w' := by
  have Ha := hide ha
  have Hb := hide hb
  have Hd := hide hd
  clear ha hb hd
  have hs : ((mulDivF a b d up).isSome == (mulDivF a b d up).isSome) = true := by simp
  have B0 := hide (Below.refl w.heap.size w)
  go_enter Try.func9, Try.ntmps9
  go_wp2_with (fail)
  (with_reducible refine (muldiv_any a b d up _ Ha.out Hb.out Hd.out).mono ?_)
  rintro e w1 ⟨rfl, hb⟩
  have B1 := hide (B0.out.trans (hb.mono B0.out.size))
  clear hb
  dsimp only
  rw [opt_split]
  go_wp2_with (fail)
  (with_reducible refine (refmuldiv_any a b d up _ Ha.out Hb.out Hd.out).mono ?_)
  rintro e w2 ⟨rfl, hb⟩
  have B2 := hide (B1.out.trans (hb.mono B1.out.size))
  clear hb
  dsimp only
  rw [opt_split]
  go_wp2_with (fail)
  (with_reducible refine (alive02_any _).mono ?_)
  rintro e w3 ⟨rfl, hb⟩
  have B3 := hide (B2.out.trans (hb.mono B2.out.size))
  clear hb
  dsimp only
  go_wp2
  go_ret
  exact ⟨rfl, B3.out⟩
set_option maxRecDepth 100000 in
set_option maxHeartbeats 2000000 in
theorem fixGrids_w (a b : Int) (w : World) (ha : okI a) (hb : okI b) :
    Calls Try.prog 11 #[.int .i64 a, .int .i64 b] w fun e w' => e = .returned (.bool true) ∧ Below w.heap.size w w' := by
  have Ha := hide ha
  have Hb := hide hb
  clear ha hb
  have hs : ((upF a b).isSome == (upF a b).isSome) = true := by simp
  have B0 := hide (Below.refl w.heap.size w)
  go_enter Try.func11, Try.ntmps11
  go_wp2_with (fail)
  (with_reducible refine (fixup_any a b _ Ha.out Hb.out).mono ?_)
  rintro e w' ⟨rfl, rfl⟩
  dsimp only
  rw [opt_split]
  go_wp2_with (fail)
  (with_reducible refine (refup_any a b _ Ha.out Hb.out).mono ?_)
  rintro e w1 ⟨rfl, hb⟩
  have B1 := hide (B0.out.trans (hb.mono B0.out.size))
  clear hb
  dsimp only
  rw [opt_split]
  go_wp2_with (fail)
  (with_reducible refine (down_any a b _ Ha.out Hb.out).mono ?_)
  rintro e w' ⟨rfl, rfl⟩
  dsimp only
  go_wp2_with (fail)
  (with_reducible refine (refdown_any a b _ Ha.out Hb.out).mono ?_)
  rintro e w' ⟨rfl, rfl⟩
  dsimp only
  go_wp2_with (fail)
  (with_reducible refine (alive02_any _).mono ?_)
  rintro e w2 ⟨rfl, hb⟩
  have B2 := hide (B1.out.trans (hb.mono B1.out.size))
  clear hb
  dsimp only
  go_wp2
  go_ret
  exact ⟨rfl, B2.out⟩
set_option maxRecDepth 100000 in
set_option maxHeartbeats 2000000 in
theorem fixBands_w (a b d : Int) (w : World) (hd : okI d) :
    Calls Try.prog 12 #[.int .i64 a, .int .i64 b, .int .i64 d] w fun e w' => e = .returned (.bool true) ∧ Below w.heap.size w w' := by
  have Hd := hide hd
  clear hd
  have hs : ((lowerF a b d).isSome == (lowerF a b d).isSome) = true := by simp
  have hs2 : ((upperF a b d).isSome == (upperF a b d).isSome) = true := by simp
  have B0 := hide (Below.refl w.heap.size w)
  go_enter Try.func12, Try.ntmps12
  go_wp2_with (fail)
  (with_reducible refine (lower_any a b d _ Hd.out).mono ?_)
  rintro e w1 ⟨rfl, hb⟩
  have B1 := hide (B0.out.trans (hb.mono B0.out.size))
  clear hb
  dsimp only
  rw [opt_split]
  go_wp2_with (fail)
  (with_reducible refine (reflower_any a b d _ Hd.out).mono ?_)
  rintro e w2 ⟨rfl, hb⟩
  have B2 := hide (B1.out.trans (hb.mono B1.out.size))
  clear hb
  dsimp only
  rw [opt_split]
  go_wp2_with (fail)
  (with_reducible refine (upper_any a b d _ Hd.out).mono ?_)
  rintro e w3 ⟨rfl, hb⟩
  have B3 := hide (B2.out.trans (hb.mono B2.out.size))
  clear hb
  dsimp only
  rw [opt_split]
  go_wp2_with (fail)
  (with_reducible refine (refupper_any a b d _ Hd.out).mono ?_)
  rintro e w' ⟨rfl, rfl⟩
  dsimp only
  rw [opt_split]
  go_wp2_with (fail)
  (with_reducible refine (alive02_any _).mono ?_)
  rintro e w4 ⟨rfl, hb⟩
  have B4 := hide (B3.out.trans (hb.mono B3.out.size))
  clear hb
  dsimp only
  go_wp2
  go_ret
  exact ⟨rfl, B4.out⟩
end Go.Proofs.Ytadilccdipcmnaa
