/- The laws FixSums, FixChecks: the walks. -/
import Derived.Test.YtadilccdipcmnaaFixF
namespace Go.Proofs.Ytadilccdipcmnaa
open Go Go.RowKit

set_option maxRecDepth 100000 in
set_option maxHeartbeats 2000000 in
theorem fixSums_w (a b : Int) (w : World) (ha : okI a) (hb : okI b) :
    Calls Try.prog 15 #[.int .i64 a, .int .i64 b] w fun e w' => e = .returned (.bool true) ∧ Below w.heap.size w w' := by
  have Ha := hide ha
  have Hb := hide hb
  clear ha hb
  have hs1 : ((addF a b).isSome == (addF a b).isSome) = true := by simp
  have hs2 : ((subF a b).isSome == (subF a b).isSome) = true := by simp
  have hs3 : ((mulF a b).isSome == (mulF a b).isSome) = true := by simp
  have B0 := hide (Below.refl w.heap.size w)
  go_enter Try.func15, Try.ntmps15
  go_wp2_with (fail)
  (with_reducible refine (fixadd_any a b _ Ha.out Hb.out).mono ?_)
  rintro e w' ⟨rfl, rfl⟩
  dsimp only
  rw [opt_split]
  go_wp2_with (fail)
  (with_reducible refine (fixsub_any a b _ Ha.out Hb.out).mono ?_)
  rintro e w' ⟨rfl, rfl⟩
  dsimp only
  rw [opt_split]
  go_wp2_with (fail)
  (with_reducible refine (fixmul_any a b _ Ha.out Hb.out).mono ?_)
  rintro e w1 ⟨rfl, hb⟩
  have B1 := hide (B0.out.trans (hb.mono B0.out.size))
  clear hb
  dsimp only
  rw [opt_split]
  go_wp2_with (fail)
  (with_reducible refine (refadd_any a b _ Ha.out Hb.out).mono ?_)
  rintro e w2 ⟨rfl, hb⟩
  have B2 := hide (B1.out.trans (hb.mono B1.out.size))
  clear hb
  dsimp only
  rw [opt_split]
  go_wp2_with (fail)
  (with_reducible refine (refsub_any a b _ Ha.out Hb.out).mono ?_)
  rintro e w3 ⟨rfl, hb⟩
  have B3 := hide (B2.out.trans (hb.mono B2.out.size))
  clear hb
  dsimp only
  rw [opt_split]
  go_wp2_with (fail)
  (with_reducible refine (refmul2_any a b _ Ha.out Hb.out).mono ?_)
  rintro e w4 ⟨rfl, hb⟩
  have B4 := hide (B3.out.trans (hb.mono B3.out.size))
  clear hb
  dsimp only
  rw [opt_split]
  go_wp2_with (fail)
  (with_reducible refine (alive02_any _).mono ?_)
  rintro e w5 ⟨rfl, hb⟩
  have B5 := hide (B4.out.trans (hb.mono B4.out.size))
  clear hb
  dsimp only
  go_wp2
  go_ret
  exact ⟨rfl, B5.out⟩
set_option maxRecDepth 100000 in
set_option maxHeartbeats 2000000 in
theorem fixChecks_w (a b d : Int) (w : World) (ha : okI a) (hb : okI b) (hd : okI d) :
    Calls Try.prog 16 #[.int .i64 a, .int .i64 b, .int .i64 d] w fun e w' => e = .returned (.bool true) ∧ Below w.heap.size w w' := by
  have Ha := hide ha
  have Hb := hide hb
  have Hd := hide hd
  clear ha hb hd
  have hs : ((notF a b).isSome == (notF a b).isSome) = true := by simp
  have B0 := hide (Below.refl w.heap.size w)
  go_enter Try.func16, Try.ntmps16
  go_wp2_with (fail)
  (with_reducible refine (notional_any a b _ Ha.out Hb.out).mono ?_)
  rintro e w1 ⟨rfl, hb⟩
  have B1 := hide (B0.out.trans (hb.mono B0.out.size))
  clear hb
  dsimp only
  rw [opt_split]
  go_wp2_with (fail)
  (with_reducible refine (refnotional_any a b _ Ha.out Hb.out).mono ?_)
  rintro e w2 ⟨rfl, hb⟩
  have B2 := hide (B1.out.trans (hb.mono B1.out.size))
  clear hb
  dsimp only
  rw [opt_split]
  go_wp2_with (fail)
  (with_reducible refine (price_any a d _ Ha.out Hd.out).mono ?_)
  rintro e w' ⟨rfl, rfl⟩
  dsimp only
  go_wp2_with (fail)
  (with_reducible refine (refprice_any a d _ Ha.out Hd.out).mono ?_)
  rintro e w' ⟨rfl, rfl⟩
  dsimp only
  go_wp2_with (fail)
  (with_reducible refine (qty_any b _).mono ?_)
  rintro e w3 ⟨rfl, hb⟩
  have B3 := hide (B2.out.trans (hb.mono B2.out.size))
  clear hb
  dsimp only
  go_wp2_with (fail)
  (with_reducible refine (refqty_any b _).mono ?_)
  rintro e w' ⟨rfl, rfl⟩
  dsimp only
  go_wp2_with (fail)
  (with_reducible refine (alive02_any _).mono ?_)
  rintro e w4 ⟨rfl, hb⟩
  have B4 := hide (B3.out.trans (hb.mono B3.out.size))
  clear hb
  dsimp only
  go_wp2
  go_ret
  exact ⟨rfl, B4.out⟩
end Go.Proofs.Ytadilccdipcmnaa
