/- The laws BandHolds and BandWidens: the plain laws and the walks. -/
import Derived.Test.YtadilccdipcmnaaBandH
import Derived.Test.YtadilccdipcmnaaConfC
namespace Go.Proofs.Ytadilccdipcmnaa
open Go Go.RowKit
attribute [local go_sem] field_bnd0 field_bnd1

theorem sym_ok {s : Nat → Int} (h : symF s = 0) : (1 ≤ s 0 ∧ s 0 ≤ 1099511627776) ∧ (0 ≤ s 2 ∧ s 2 ≤ 9999) ∧ (0 ≤ s 3 ∧ s 3 ≤ 9999) ∧ (0 ≤ s 10 ∧ s 10 ≤ 9999) ∧ (0 ≤ s 11 ∧ s 11 ≤ 9999) := by
  unfold symF at h
  by_cases h1 : r1 s = false
  · rw [if_pos h1] at h
    omega
  rw [if_neg h1] at h
  by_cases h2 : r2 s = false
  · rw [if_pos h2] at h
    omega
  rw [if_neg h2] at h
  by_cases h3 : r3 s = false
  · rw [if_pos h3] at h
    omega
  have e1 : r1 s = true := by simpa using h1
  have e3 : r3 s = true := by simpa using h3
  simp [r1, goodN] at e1
  simp [r3, goodN] at e3
  omega
theorem inF_true {x y p : Int} (h1 : x ≤ p) (h2 : p ≤ y) : inF x y p = true := decide_eq_true ⟨h1, h2⟩
theorem max_grid {a b g : Int} (ha : a % g = 0) (hb : b % g = 0) : max a b % g = 0 := by
  rw [Int.max_def]
  split <;> assumption
theorem min_grid {a b g : Int} (ha : a % g = 0) (hb : b % g = 0) : min a b % g = 0 := by
  rw [Int.min_def]
  split <;> assumption
/-- A band around a reference on the grid. -/
theorem band_law {r parts g : Int} (hr : 1 ≤ r) (hr2 : r ≤ 1099511627776) (hg : 1 ≤ g) (hg2 : g ≤ 1099511627776) (hz : r % g = 0) (h0 : 0 ≤ parts) (h2 : parts ≤ 9999) :
    ∃ a b, bandF r parts g = some (a, b) ∧ a ≤ r ∧ r ≤ b ∧ a % g = 0 ∧ b % g = 0 ∧ 0 < a := by
  obtain ⟨a, b, c, d, e1, e2, e3, e4, l1, l2, l3, l4, z1, z2, hp, -⟩ := around_law hr hr2 hg hg2 hz h0 (Int.le_refl _) h2
  rw [e1] at e3
  obtain rfl : a = c := Option.some.inj e3
  refine ⟨a, b, ?_, l2, l3, z1, z2, hp⟩
  unfold bandF
  rw [e1, e2]
  rfl
theorem holds_law {s : Nat → Int} {first r : Int} (hs : symF s = 0) (h1 : 1 ≤ first) (h2 : first ≤ 1099511627776) (hz : first % s 0 = 0) (h3 : 1 ≤ r) (hz2 : r % s 0 = 0) :
    ∃ lo hi, bandF first (s 2) (s 0) = some (lo, hi) ∧ inF lo hi first = true ∧ (inF lo hi r = true → r ≤ 1099511627776 → ∃ l h c d, withinF s first r (s 3) = some (l, h) ∧ bandF r (s 3) (s 0) = some (c, d) ∧
      inF l h r = true ∧ inF lo hi l = true ∧ inF lo hi h = true ∧ inF c d l = true ∧ inF c d h = true ∧ l % s 0 = 0 ∧ h % s 0 = 0 ∧ 0 < l ∧ l ≤ r ∧ r ≤ h) := by
  obtain ⟨⟨g1, g2⟩, ⟨a1, a2⟩, ⟨b1, b2⟩, -⟩ := sym_ok hs
  obtain ⟨lo, hi, e, l1, l2, z1, z2, p⟩ := band_law h1 h2 g1 g2 hz a1 a2
  refine ⟨lo, hi, e, inF_true l1 l2, fun hin hr => ?_⟩
  obtain ⟨k1, k2⟩ := of_decide_eq_true hin
  obtain ⟨c, d, e', m1, m2, y1, y2, p'⟩ := band_law h3 hr g1 g2 hz2 b1 b2
  have hw : withinF s first r (s 3) = some (max lo c, min hi d) := by
    unfold withinF
    rw [e, e']
    rfl
  refine ⟨_, _, c, d, hw, e', inF_true (by omega) (by omega), inF_true (by omega) (by omega), inF_true (by omega) (by omega), inF_true (by omega) (by omega), inF_true (by omega) (by omega), max_grid z1 y1, min_grid z2 y2, by omega, by omega, by omega⟩
/-- With more parts a band is no narrower. -/
theorem wider {r p q g : Int} (h : p ≤ q) (hr : 1 ≤ r) (hr2 : r ≤ 1099511627776) (hg : 1 ≤ g) (hg2 : g ≤ 1099511627776) (h0 : 0 ≤ p) (h2 : q ≤ 9999) :
    ∃ a b c d, bandF r p g = some (a, b) ∧ bandF r q g = some (c, d) ∧ c ≤ a ∧ b ≤ d := by
  have f1 : fitsP r p g := ⟨hr, hr2, h0, by omega, hg, hg2⟩
  have f2 : fitsP r q g := ⟨hr, hr2, by omega, h2, hg, hg2⟩
  have m1 : r * (10000 - q) ≤ r * (10000 - p) := Int.mul_le_mul_of_nonneg_left (by omega) (by omega)
  have m5 : r * (10000 + p) ≤ r * (10000 + q) := Int.mul_le_mul_of_nonneg_left (by omega) (by omega)
  obtain ⟨n0, n1⟩ := parts_bd (r := r) (p := 10000 - p) (by omega) hr2 (by omega) (by omega)
  obtain ⟨n2, n3⟩ := parts_bd (r := r) (p := 10000 - q) (by omega) hr2 (by omega) (by omega)
  obtain ⟨n4, n5⟩ := parts_bd (r := r) (p := 10000 + p) (by omega) hr2 (by omega) (by omega)
  obtain ⟨n6, n7⟩ := parts_bd (r := r) (p := 10000 + q) (by omega) hr2 (by omega) (by omega)
  have c1 := ceil_mono m1
  obtain ⟨-, c2⟩ := ceil_bd n0 n1
  obtain ⟨-, c3⟩ := ceil_bd n2 n3
  have c4 : ceilV (r * (10000 - p)) ≤ 21990232555520000 := by unfold ceilV; split <;> omega
  have c5 : ceilV (r * (10000 - q)) ≤ 21990232555520000 := by unfold ceilV; split <;> omega
  have q1 := upN_least (p := ceilV (r * (10000 - p))) (m := upN (ceilV (r * (10000 - p))) g) hg upN_grid (upN_ge hg)
  have w1 : upN (ceilV (r * (10000 - p))) g < 9223372036854775808 := by
    have t1 := Int.emod_nonneg (ceilV (r * (10000 - p))) (show g ≠ 0 by omega)
    unfold upN
    split <;> omega
  have w2 : upN (ceilV (r * (10000 - q))) g < 9223372036854775808 := by
    have t1 := Int.emod_nonneg (ceilV (r * (10000 - q))) (show g ≠ 0 by omega)
    unfold upN
    split <;> omega
  have u1 := upF_some (p := ceilV (r * (10000 - p))) c2 hg upN_grid (upN_ge hg) w1
  have u2 := upF_some (p := ceilV (r * (10000 - q))) c3 hg upN_grid (upN_ge hg) w2
  have u3 := upN_least (p := ceilV (r * (10000 - q))) (m := upN (ceilV (r * (10000 - p))) g) hg upN_grid (by have := upN_ge (p := ceilV (r * (10000 - p))) hg; omega)
  have d2 : (r * (10000 + p) / 10000 - r * (10000 + p) / 10000 % g) % g = 0 := Int.emod_eq_zero_of_dvd (Int.dvd_self_sub_emod)
  have d3 := Int.emod_nonneg (r * (10000 + p) / 10000) (show g ≠ 0 by omega)
  have d4 := downN_most (x := r * (10000 + q) / 10000) hg d2 (by omega)
  refine ⟨_, _, _, _, ?_, ?_, u3, d4⟩
  · unfold bandF
    rw [show lowerF r p g = _ from (if_pos f1).trans u1, show upperF r p g = _ from (if_pos f1).trans (by rw [down_in (by omega) hg])]
    rfl
  · unfold bandF
    rw [show lowerF r q g = _ from (if_pos f2).trans u2, show upperF r q g = _ from (if_pos f2).trans (by rw [down_in (by omega) hg])]
    rfl
theorem widens_law {s : Nat → Int} {first r a b : Int} (hs : symF s = 0) (h1 : 1 ≤ first) (h2 : first ≤ 1099511627776) (h3 : 1 ≤ r) (h4 : r ≤ 1099511627776) (ha : 0 ≤ a) (hab : a ≤ b) (hb : b ≤ 10) :
    ∃ zl zh xl xh yl yh, bandF first (s 2) (s 0) = some (zl, zh) ∧ collarF s first r a = some (xl, xh) ∧ collarF s first r b = some (yl, yh) ∧ yl ≤ xl ∧ xh ≤ yh ∧ zl ≤ yl ∧ yh ≤ zh := by
  obtain ⟨⟨g1, g2⟩, ⟨a1, a2⟩, -, ⟨c1, c2⟩, ⟨e1, e2⟩⟩ := sym_ok hs
  have m0 : 0 ≤ a * s 11 := Int.mul_nonneg ha e1
  have m1 : a * s 11 ≤ b * s 11 := Int.mul_le_mul_of_nonneg_right hab e1
  obtain ⟨zl, zh, -, -, hz, -, -, -⟩ := wider (p := s 2) (q := s 2) (Int.le_refl _) h1 h2 g1 g2 a1 a2
  obtain ⟨p, q, p', q', hp, hq, l1, l2⟩ := wider (p := min (s 10 + a * s 11) 9999) (q := min (s 10 + b * s 11) 9999) (by omega) h3 h4 g1 g2 (by omega) (by omega)
  have hA : collarF s first r a = some (max zl p, min zh q) := by
    refine (if_neg (by omega)).trans ?_
    unfold withinF
    rw [hz, hp]
    rfl
  have hB : collarF s first r b = some (max zl p', min zh q') := by
    refine (if_neg (by omega)).trans ?_
    unfold withinF
    rw [hz, hq]
    rfl
  exact ⟨zl, zh, _, _, _, _, hz, hA, hB, by omega, by omega, by omega, by omega⟩
set_option maxRecDepth 100000 in
set_option maxHeartbeats 4000000 in
theorem bandHolds_w (s : Nat → Int) (first r : Int) (w : World) (hg : okI (s 0)) (hk : okI (s 1)) (of : okI first) (or : okI r) :
    Calls Try.prog 8 #[.agg (symA s), .int .i64 first, .int .i64 r] w fun e w' => e = .returned (.bool true) ∧ Below w.heap.size w w' := by
  have Hg := hide hg
  have Hk := hide hk
  clear hg hk
  have B0 := hide (Below.refl w.heap.size w)
  have sB0 := B0.out.size
  by_cases hs : ¬ symF s = 0
  · obtain ⟨f, hf⟩ : ∃ f, f = symF s := ⟨_, rfl⟩
    rw [← hf] at hs
    have HF := hide hf.symm
    have hs2 : (f == 0) = false := by simpa using hs
    clear hf of or
    go_enter Try.func8, Try.ntmps8
    go_wp2_with (first | ((with_reducible apply load_sym); exact rfl; exact rfl; exact rfl; focus ((repeat' (first | (with_reducible assumption) | ((with_reducible apply Sym.new'); simp; done) | (with_reducible apply Sym.setRow_other) | (with_reducible apply Sym.alloc) | (simp; done) | omega | (simp; omega))); done)) | first | first | ((with_reducible apply load_bnd); exact rfl; exact rfl; exact rfl; focus ((repeat' (first | (with_reducible assumption) | ((with_reducible apply Bnd.new'); simp; done) | (with_reducible apply Bnd.setRow) | (with_reducible apply Bnd.setRow_other) | (with_reducible apply Bnd.alloc) | (simp; done) | omega | (simp; omega))); done)) | ((with_reducible apply store_bnd); exact rfl; exact rfl; exact rfl; exact rfl; exact rfl; exact rfl; focus ((repeat' (first | (with_reducible assumption) | ((with_reducible apply Bnd.new'); simp; done) | (with_reducible apply Bnd.setRow) | (with_reducible apply Bnd.setRow_other) | (with_reducible apply Bnd.alloc) | (simp; done) | omega | (simp; omega))); done)) | ((with_reducible apply beq_step); exact rfl; exact rfl; exact rfl; exact rfl; simp only [Act.put, List.setIfInBounds_toArray, List.set_cons_zero, List.set_cons_succ]) | ((with_reducible apply bneq_step); exact rfl; exact rfl; exact rfl; exact rfl; simp only [Act.put, List.setIfInBounds_toArray, List.set_cons_zero, List.set_cons_succ]) | first | ((with_reducible apply gload_bnd); exact rfl; exact rfl; exact rfl; focus ((repeat' (first | (with_reducible assumption) | ((with_reducible apply Bnd.new'); simp; done) | (with_reducible apply Bnd.setRow) | (with_reducible apply Bnd.setRow_other) | (with_reducible apply Bnd.alloc) | (simp; done) | omega | (simp; omega))); done)) | ((with_reducible apply geq_bnd); exact rfl; exact rfl; exact rfl; exact rfl; simp only [Act.put, List.setIfInBounds_toArray, List.set_cons_zero, List.set_cons_succ]) | ((with_reducible apply gneq_bnd); exact rfl; exact rfl; exact rfl; exact rfl; simp only [Act.put, List.setIfInBounds_toArray, List.set_cons_zero, List.set_cons_succ]))
    (with_reducible refine (symbol_any s _ Hg.out Hk.out).mono ?_)
    rintro e w1 ⟨rfl, hb⟩
    have tS1 : Sym w1 w.heap.size s := Sym.below (by (repeat' (first | (with_reducible assumption) | ((with_reducible apply Sym.new'); simp; done) | (with_reducible apply Sym.setRow_other) | (with_reducible apply Sym.alloc) | (simp; done) | omega | (simp; omega)))) hb (by first | omega | (simp; done) | (simp; omega))
    have B1 := hide (keep_below hb (by (repeat' (first | (with_reducible exact B0.out) | (with_reducible apply below_setRow) | (with_reducible apply Below.alloc) | omega | (simp; done) | (simp; omega)))) (by first | omega | (simp; done) | (simp; omega)) : Below w.heap.size w w1)
    have sB1 := B1.out.size
    clear hb
    have lS1 := tS1.lt
    rw [HF.out]
    dsimp only
    have c0 := tS1.cell 0 rfl
    go_wp2_with (first | ((with_reducible apply load_sym); exact rfl; exact rfl; exact rfl; focus ((repeat' (first | (with_reducible assumption) | ((with_reducible apply Sym.new'); simp; done) | (with_reducible apply Sym.setRow_other) | (with_reducible apply Sym.alloc) | (simp; done) | omega | (simp; omega))); done)) | first | first | ((with_reducible apply load_bnd); exact rfl; exact rfl; exact rfl; focus ((repeat' (first | (with_reducible assumption) | ((with_reducible apply Bnd.new'); simp; done) | (with_reducible apply Bnd.setRow) | (with_reducible apply Bnd.setRow_other) | (with_reducible apply Bnd.alloc) | (simp; done) | omega | (simp; omega))); done)) | ((with_reducible apply store_bnd); exact rfl; exact rfl; exact rfl; exact rfl; exact rfl; exact rfl; focus ((repeat' (first | (with_reducible assumption) | ((with_reducible apply Bnd.new'); simp; done) | (with_reducible apply Bnd.setRow) | (with_reducible apply Bnd.setRow_other) | (with_reducible apply Bnd.alloc) | (simp; done) | omega | (simp; omega))); done)) | ((with_reducible apply beq_step); exact rfl; exact rfl; exact rfl; exact rfl; simp only [Act.put, List.setIfInBounds_toArray, List.set_cons_zero, List.set_cons_succ]) | ((with_reducible apply bneq_step); exact rfl; exact rfl; exact rfl; exact rfl; simp only [Act.put, List.setIfInBounds_toArray, List.set_cons_zero, List.set_cons_succ]) | first | ((with_reducible apply gload_bnd); exact rfl; exact rfl; exact rfl; focus ((repeat' (first | (with_reducible assumption) | ((with_reducible apply Bnd.new'); simp; done) | (with_reducible apply Bnd.setRow) | (with_reducible apply Bnd.setRow_other) | (with_reducible apply Bnd.alloc) | (simp; done) | omega | (simp; omega))); done)) | ((with_reducible apply geq_bnd); exact rfl; exact rfl; exact rfl; exact rfl; simp only [Act.put, List.setIfInBounds_toArray, List.set_cons_zero, List.set_cons_succ]) | ((with_reducible apply gneq_bnd); exact rfl; exact rfl; exact rfl; exact rfl; simp only [Act.put, List.setIfInBounds_toArray, List.set_cons_zero, List.set_cons_succ]))
    (with_reducible refine (alive20_any _).mono ?_)
    rintro e w2 ⟨rfl, hb⟩
    have tS2 : Sym w2 w.heap.size s := Sym.below (by (repeat' (first | (with_reducible assumption) | ((with_reducible apply Sym.new'); simp; done) | (with_reducible apply Sym.setRow_other) | (with_reducible apply Sym.alloc) | (simp; done) | omega | (simp; omega)))) hb (by first | omega | (simp; done) | (simp; omega))
    have B2 := hide (keep_below hb (by (repeat' (first | (with_reducible exact B1.out) | (with_reducible apply below_setRow) | (with_reducible apply Below.alloc) | omega | (simp; done) | (simp; omega)))) (by first | omega | (simp; done) | (simp; omega)) : Below w.heap.size w w2)
    have sB2 := B2.out.size
    clear hb c0 tS1
    have lS2 := tS2.lt
    dsimp only
    go_wp2
    go_ret
    exact ⟨rfl, B2.out⟩
  replace hs := Classical.not_not.1 hs
  have HS := hide hs
  obtain ⟨⟨g1, g2⟩, -⟩ := sym_ok hs
  have hgne : s 0 ≠ 0 := by omega
  unfold okI at of or
  clear hs
  by_cases k1 : first < 1
  · clear of or
    go_enter Try.func8, Try.ntmps8
    go_wp2_with (first | ((with_reducible apply load_sym); exact rfl; exact rfl; exact rfl; focus ((repeat' (first | (with_reducible assumption) | ((with_reducible apply Sym.new'); simp; done) | (with_reducible apply Sym.setRow_other) | (with_reducible apply Sym.alloc) | (simp; done) | omega | (simp; omega))); done)) | first | first | ((with_reducible apply load_bnd); exact rfl; exact rfl; exact rfl; focus ((repeat' (first | (with_reducible assumption) | ((with_reducible apply Bnd.new'); simp; done) | (with_reducible apply Bnd.setRow) | (with_reducible apply Bnd.setRow_other) | (with_reducible apply Bnd.alloc) | (simp; done) | omega | (simp; omega))); done)) | ((with_reducible apply store_bnd); exact rfl; exact rfl; exact rfl; exact rfl; exact rfl; exact rfl; focus ((repeat' (first | (with_reducible assumption) | ((with_reducible apply Bnd.new'); simp; done) | (with_reducible apply Bnd.setRow) | (with_reducible apply Bnd.setRow_other) | (with_reducible apply Bnd.alloc) | (simp; done) | omega | (simp; omega))); done)) | ((with_reducible apply beq_step); exact rfl; exact rfl; exact rfl; exact rfl; simp only [Act.put, List.setIfInBounds_toArray, List.set_cons_zero, List.set_cons_succ]) | ((with_reducible apply bneq_step); exact rfl; exact rfl; exact rfl; exact rfl; simp only [Act.put, List.setIfInBounds_toArray, List.set_cons_zero, List.set_cons_succ]) | first | ((with_reducible apply gload_bnd); exact rfl; exact rfl; exact rfl; focus ((repeat' (first | (with_reducible assumption) | ((with_reducible apply Bnd.new'); simp; done) | (with_reducible apply Bnd.setRow) | (with_reducible apply Bnd.setRow_other) | (with_reducible apply Bnd.alloc) | (simp; done) | omega | (simp; omega))); done)) | ((with_reducible apply geq_bnd); exact rfl; exact rfl; exact rfl; exact rfl; simp only [Act.put, List.setIfInBounds_toArray, List.set_cons_zero, List.set_cons_succ]) | ((with_reducible apply gneq_bnd); exact rfl; exact rfl; exact rfl; exact rfl; simp only [Act.put, List.setIfInBounds_toArray, List.set_cons_zero, List.set_cons_succ]))
    (with_reducible refine (symbol_any s _ Hg.out Hk.out).mono ?_)
    rintro e w1 ⟨rfl, hb⟩
    have tS1 : Sym w1 w.heap.size s := Sym.below (by (repeat' (first | (with_reducible assumption) | ((with_reducible apply Sym.new'); simp; done) | (with_reducible apply Sym.setRow_other) | (with_reducible apply Sym.alloc) | (simp; done) | omega | (simp; omega)))) hb (by first | omega | (simp; done) | (simp; omega))
    have B1 := hide (keep_below hb (by (repeat' (first | (with_reducible exact B0.out) | (with_reducible apply below_setRow) | (with_reducible apply Below.alloc) | omega | (simp; done) | (simp; omega)))) (by first | omega | (simp; done) | (simp; omega)) : Below w.heap.size w w1)
    have sB1 := B1.out.size
    clear hb
    have lS1 := tS1.lt
    rw [HS.out]
    dsimp only
    have c0 := tS1.cell 0 rfl
    go_wp2_with (first | ((with_reducible apply load_sym); exact rfl; exact rfl; exact rfl; focus ((repeat' (first | (with_reducible assumption) | ((with_reducible apply Sym.new'); simp; done) | (with_reducible apply Sym.setRow_other) | (with_reducible apply Sym.alloc) | (simp; done) | omega | (simp; omega))); done)) | first | first | ((with_reducible apply load_bnd); exact rfl; exact rfl; exact rfl; focus ((repeat' (first | (with_reducible assumption) | ((with_reducible apply Bnd.new'); simp; done) | (with_reducible apply Bnd.setRow) | (with_reducible apply Bnd.setRow_other) | (with_reducible apply Bnd.alloc) | (simp; done) | omega | (simp; omega))); done)) | ((with_reducible apply store_bnd); exact rfl; exact rfl; exact rfl; exact rfl; exact rfl; exact rfl; focus ((repeat' (first | (with_reducible assumption) | ((with_reducible apply Bnd.new'); simp; done) | (with_reducible apply Bnd.setRow) | (with_reducible apply Bnd.setRow_other) | (with_reducible apply Bnd.alloc) | (simp; done) | omega | (simp; omega))); done)) | ((with_reducible apply beq_step); exact rfl; exact rfl; exact rfl; exact rfl; simp only [Act.put, List.setIfInBounds_toArray, List.set_cons_zero, List.set_cons_succ]) | ((with_reducible apply bneq_step); exact rfl; exact rfl; exact rfl; exact rfl; simp only [Act.put, List.setIfInBounds_toArray, List.set_cons_zero, List.set_cons_succ]) | first | ((with_reducible apply gload_bnd); exact rfl; exact rfl; exact rfl; focus ((repeat' (first | (with_reducible assumption) | ((with_reducible apply Bnd.new'); simp; done) | (with_reducible apply Bnd.setRow) | (with_reducible apply Bnd.setRow_other) | (with_reducible apply Bnd.alloc) | (simp; done) | omega | (simp; omega))); done)) | ((with_reducible apply geq_bnd); exact rfl; exact rfl; exact rfl; exact rfl; simp only [Act.put, List.setIfInBounds_toArray, List.set_cons_zero, List.set_cons_succ]) | ((with_reducible apply gneq_bnd); exact rfl; exact rfl; exact rfl; exact rfl; simp only [Act.put, List.setIfInBounds_toArray, List.set_cons_zero, List.set_cons_succ]))
    (with_reducible refine (alive20_any _).mono ?_)
    rintro e w2 ⟨rfl, hb⟩
    have tS2 : Sym w2 w.heap.size s := Sym.below (by (repeat' (first | (with_reducible assumption) | ((with_reducible apply Sym.new'); simp; done) | (with_reducible apply Sym.setRow_other) | (with_reducible apply Sym.alloc) | (simp; done) | omega | (simp; omega)))) hb (by first | omega | (simp; done) | (simp; omega))
    have B2 := hide (keep_below hb (by (repeat' (first | (with_reducible exact B1.out) | (with_reducible apply below_setRow) | (with_reducible apply Below.alloc) | omega | (simp; done) | (simp; omega)))) (by first | omega | (simp; done) | (simp; omega)) : Below w.heap.size w w2)
    have sB2 := B2.out.size
    clear hb c0 tS1
    have lS2 := tS2.lt
    dsimp only
    go_wp2
    go_ret
    exact ⟨rfl, B2.out⟩
  by_cases k2 : 1099511627776 < first
  · clear of or
    go_enter Try.func8, Try.ntmps8
    go_wp2_with (first | ((with_reducible apply load_sym); exact rfl; exact rfl; exact rfl; focus ((repeat' (first | (with_reducible assumption) | ((with_reducible apply Sym.new'); simp; done) | (with_reducible apply Sym.setRow_other) | (with_reducible apply Sym.alloc) | (simp; done) | omega | (simp; omega))); done)) | first | first | ((with_reducible apply load_bnd); exact rfl; exact rfl; exact rfl; focus ((repeat' (first | (with_reducible assumption) | ((with_reducible apply Bnd.new'); simp; done) | (with_reducible apply Bnd.setRow) | (with_reducible apply Bnd.setRow_other) | (with_reducible apply Bnd.alloc) | (simp; done) | omega | (simp; omega))); done)) | ((with_reducible apply store_bnd); exact rfl; exact rfl; exact rfl; exact rfl; exact rfl; exact rfl; focus ((repeat' (first | (with_reducible assumption) | ((with_reducible apply Bnd.new'); simp; done) | (with_reducible apply Bnd.setRow) | (with_reducible apply Bnd.setRow_other) | (with_reducible apply Bnd.alloc) | (simp; done) | omega | (simp; omega))); done)) | ((with_reducible apply beq_step); exact rfl; exact rfl; exact rfl; exact rfl; simp only [Act.put, List.setIfInBounds_toArray, List.set_cons_zero, List.set_cons_succ]) | ((with_reducible apply bneq_step); exact rfl; exact rfl; exact rfl; exact rfl; simp only [Act.put, List.setIfInBounds_toArray, List.set_cons_zero, List.set_cons_succ]) | first | ((with_reducible apply gload_bnd); exact rfl; exact rfl; exact rfl; focus ((repeat' (first | (with_reducible assumption) | ((with_reducible apply Bnd.new'); simp; done) | (with_reducible apply Bnd.setRow) | (with_reducible apply Bnd.setRow_other) | (with_reducible apply Bnd.alloc) | (simp; done) | omega | (simp; omega))); done)) | ((with_reducible apply geq_bnd); exact rfl; exact rfl; exact rfl; exact rfl; simp only [Act.put, List.setIfInBounds_toArray, List.set_cons_zero, List.set_cons_succ]) | ((with_reducible apply gneq_bnd); exact rfl; exact rfl; exact rfl; exact rfl; simp only [Act.put, List.setIfInBounds_toArray, List.set_cons_zero, List.set_cons_succ]))
    (with_reducible refine (symbol_any s _ Hg.out Hk.out).mono ?_)
    rintro e w1 ⟨rfl, hb⟩
    have tS1 : Sym w1 w.heap.size s := Sym.below (by (repeat' (first | (with_reducible assumption) | ((with_reducible apply Sym.new'); simp; done) | (with_reducible apply Sym.setRow_other) | (with_reducible apply Sym.alloc) | (simp; done) | omega | (simp; omega)))) hb (by first | omega | (simp; done) | (simp; omega))
    have B1 := hide (keep_below hb (by (repeat' (first | (with_reducible exact B0.out) | (with_reducible apply below_setRow) | (with_reducible apply Below.alloc) | omega | (simp; done) | (simp; omega)))) (by first | omega | (simp; done) | (simp; omega)) : Below w.heap.size w w1)
    have sB1 := B1.out.size
    clear hb
    have lS1 := tS1.lt
    rw [HS.out]
    dsimp only
    have c0 := tS1.cell 0 rfl
    go_wp2_with (first | ((with_reducible apply load_sym); exact rfl; exact rfl; exact rfl; focus ((repeat' (first | (with_reducible assumption) | ((with_reducible apply Sym.new'); simp; done) | (with_reducible apply Sym.setRow_other) | (with_reducible apply Sym.alloc) | (simp; done) | omega | (simp; omega))); done)) | first | first | ((with_reducible apply load_bnd); exact rfl; exact rfl; exact rfl; focus ((repeat' (first | (with_reducible assumption) | ((with_reducible apply Bnd.new'); simp; done) | (with_reducible apply Bnd.setRow) | (with_reducible apply Bnd.setRow_other) | (with_reducible apply Bnd.alloc) | (simp; done) | omega | (simp; omega))); done)) | ((with_reducible apply store_bnd); exact rfl; exact rfl; exact rfl; exact rfl; exact rfl; exact rfl; focus ((repeat' (first | (with_reducible assumption) | ((with_reducible apply Bnd.new'); simp; done) | (with_reducible apply Bnd.setRow) | (with_reducible apply Bnd.setRow_other) | (with_reducible apply Bnd.alloc) | (simp; done) | omega | (simp; omega))); done)) | ((with_reducible apply beq_step); exact rfl; exact rfl; exact rfl; exact rfl; simp only [Act.put, List.setIfInBounds_toArray, List.set_cons_zero, List.set_cons_succ]) | ((with_reducible apply bneq_step); exact rfl; exact rfl; exact rfl; exact rfl; simp only [Act.put, List.setIfInBounds_toArray, List.set_cons_zero, List.set_cons_succ]) | first | ((with_reducible apply gload_bnd); exact rfl; exact rfl; exact rfl; focus ((repeat' (first | (with_reducible assumption) | ((with_reducible apply Bnd.new'); simp; done) | (with_reducible apply Bnd.setRow) | (with_reducible apply Bnd.setRow_other) | (with_reducible apply Bnd.alloc) | (simp; done) | omega | (simp; omega))); done)) | ((with_reducible apply geq_bnd); exact rfl; exact rfl; exact rfl; exact rfl; simp only [Act.put, List.setIfInBounds_toArray, List.set_cons_zero, List.set_cons_succ]) | ((with_reducible apply gneq_bnd); exact rfl; exact rfl; exact rfl; exact rfl; simp only [Act.put, List.setIfInBounds_toArray, List.set_cons_zero, List.set_cons_succ]))
    (with_reducible refine (alive20_any _).mono ?_)
    rintro e w2 ⟨rfl, hb⟩
    have tS2 : Sym w2 w.heap.size s := Sym.below (by (repeat' (first | (with_reducible assumption) | ((with_reducible apply Sym.new'); simp; done) | (with_reducible apply Sym.setRow_other) | (with_reducible apply Sym.alloc) | (simp; done) | omega | (simp; omega)))) hb (by first | omega | (simp; done) | (simp; omega))
    have B2 := hide (keep_below hb (by (repeat' (first | (with_reducible exact B1.out) | (with_reducible apply below_setRow) | (with_reducible apply Below.alloc) | omega | (simp; done) | (simp; omega)))) (by first | omega | (simp; done) | (simp; omega)) : Below w.heap.size w w2)
    have sB2 := B2.out.size
    clear hb c0 tS1
    have lS2 := tS2.lt
    dsimp only
    go_wp2
    go_ret
    exact ⟨rfl, B2.out⟩
  by_cases k3 : ¬ first % s 0 = 0
  · have k4 : (first % s 0 == 0) = false := by simpa using k3
    go_enter Try.func8, Try.ntmps8
    go_wp2_with (first | ((with_reducible apply load_sym); exact rfl; exact rfl; exact rfl; focus ((repeat' (first | (with_reducible assumption) | ((with_reducible apply Sym.new'); simp; done) | (with_reducible apply Sym.setRow_other) | (with_reducible apply Sym.alloc) | (simp; done) | omega | (simp; omega))); done)) | first | first | ((with_reducible apply load_bnd); exact rfl; exact rfl; exact rfl; focus ((repeat' (first | (with_reducible assumption) | ((with_reducible apply Bnd.new'); simp; done) | (with_reducible apply Bnd.setRow) | (with_reducible apply Bnd.setRow_other) | (with_reducible apply Bnd.alloc) | (simp; done) | omega | (simp; omega))); done)) | ((with_reducible apply store_bnd); exact rfl; exact rfl; exact rfl; exact rfl; exact rfl; exact rfl; focus ((repeat' (first | (with_reducible assumption) | ((with_reducible apply Bnd.new'); simp; done) | (with_reducible apply Bnd.setRow) | (with_reducible apply Bnd.setRow_other) | (with_reducible apply Bnd.alloc) | (simp; done) | omega | (simp; omega))); done)) | ((with_reducible apply beq_step); exact rfl; exact rfl; exact rfl; exact rfl; simp only [Act.put, List.setIfInBounds_toArray, List.set_cons_zero, List.set_cons_succ]) | ((with_reducible apply bneq_step); exact rfl; exact rfl; exact rfl; exact rfl; simp only [Act.put, List.setIfInBounds_toArray, List.set_cons_zero, List.set_cons_succ]) | first | ((with_reducible apply gload_bnd); exact rfl; exact rfl; exact rfl; focus ((repeat' (first | (with_reducible assumption) | ((with_reducible apply Bnd.new'); simp; done) | (with_reducible apply Bnd.setRow) | (with_reducible apply Bnd.setRow_other) | (with_reducible apply Bnd.alloc) | (simp; done) | omega | (simp; omega))); done)) | ((with_reducible apply geq_bnd); exact rfl; exact rfl; exact rfl; exact rfl; simp only [Act.put, List.setIfInBounds_toArray, List.set_cons_zero, List.set_cons_succ]) | ((with_reducible apply gneq_bnd); exact rfl; exact rfl; exact rfl; exact rfl; simp only [Act.put, List.setIfInBounds_toArray, List.set_cons_zero, List.set_cons_succ]))
    (with_reducible refine (symbol_any s _ Hg.out Hk.out).mono ?_)
    rintro e w1 ⟨rfl, hb⟩
    have tS1 : Sym w1 w.heap.size s := Sym.below (by (repeat' (first | (with_reducible assumption) | ((with_reducible apply Sym.new'); simp; done) | (with_reducible apply Sym.setRow_other) | (with_reducible apply Sym.alloc) | (simp; done) | omega | (simp; omega)))) hb (by first | omega | (simp; done) | (simp; omega))
    have B1 := hide (keep_below hb (by (repeat' (first | (with_reducible exact B0.out) | (with_reducible apply below_setRow) | (with_reducible apply Below.alloc) | omega | (simp; done) | (simp; omega)))) (by first | omega | (simp; done) | (simp; omega)) : Below w.heap.size w w1)
    have sB1 := B1.out.size
    clear hb
    have lS1 := tS1.lt
    rw [HS.out]
    dsimp only
    have c0 := tS1.cell 0 rfl
    go_wp2_with (first | ((with_reducible apply load_sym); exact rfl; exact rfl; exact rfl; focus ((repeat' (first | (with_reducible assumption) | ((with_reducible apply Sym.new'); simp; done) | (with_reducible apply Sym.setRow_other) | (with_reducible apply Sym.alloc) | (simp; done) | omega | (simp; omega))); done)) | first | first | ((with_reducible apply load_bnd); exact rfl; exact rfl; exact rfl; focus ((repeat' (first | (with_reducible assumption) | ((with_reducible apply Bnd.new'); simp; done) | (with_reducible apply Bnd.setRow) | (with_reducible apply Bnd.setRow_other) | (with_reducible apply Bnd.alloc) | (simp; done) | omega | (simp; omega))); done)) | ((with_reducible apply store_bnd); exact rfl; exact rfl; exact rfl; exact rfl; exact rfl; exact rfl; focus ((repeat' (first | (with_reducible assumption) | ((with_reducible apply Bnd.new'); simp; done) | (with_reducible apply Bnd.setRow) | (with_reducible apply Bnd.setRow_other) | (with_reducible apply Bnd.alloc) | (simp; done) | omega | (simp; omega))); done)) | ((with_reducible apply beq_step); exact rfl; exact rfl; exact rfl; exact rfl; simp only [Act.put, List.setIfInBounds_toArray, List.set_cons_zero, List.set_cons_succ]) | ((with_reducible apply bneq_step); exact rfl; exact rfl; exact rfl; exact rfl; simp only [Act.put, List.setIfInBounds_toArray, List.set_cons_zero, List.set_cons_succ]) | first | ((with_reducible apply gload_bnd); exact rfl; exact rfl; exact rfl; focus ((repeat' (first | (with_reducible assumption) | ((with_reducible apply Bnd.new'); simp; done) | (with_reducible apply Bnd.setRow) | (with_reducible apply Bnd.setRow_other) | (with_reducible apply Bnd.alloc) | (simp; done) | omega | (simp; omega))); done)) | ((with_reducible apply geq_bnd); exact rfl; exact rfl; exact rfl; exact rfl; simp only [Act.put, List.setIfInBounds_toArray, List.set_cons_zero, List.set_cons_succ]) | ((with_reducible apply gneq_bnd); exact rfl; exact rfl; exact rfl; exact rfl; simp only [Act.put, List.setIfInBounds_toArray, List.set_cons_zero, List.set_cons_succ]))
    (with_reducible refine (alive20_any _).mono ?_)
    rintro e w2 ⟨rfl, hb⟩
    have tS2 : Sym w2 w.heap.size s := Sym.below (by (repeat' (first | (with_reducible assumption) | ((with_reducible apply Sym.new'); simp; done) | (with_reducible apply Sym.setRow_other) | (with_reducible apply Sym.alloc) | (simp; done) | omega | (simp; omega)))) hb (by first | omega | (simp; done) | (simp; omega))
    have B2 := hide (keep_below hb (by (repeat' (first | (with_reducible exact B1.out) | (with_reducible apply below_setRow) | (with_reducible apply Below.alloc) | omega | (simp; done) | (simp; omega)))) (by first | omega | (simp; done) | (simp; omega)) : Below w.heap.size w w2)
    have sB2 := B2.out.size
    clear hb c0 tS1
    have lS2 := tS2.lt
    dsimp only
    go_wp2
    go_ret
    exact ⟨rfl, B2.out⟩
  replace k3 := Classical.not_not.1 k3
  have k4 : (first % s 0 == 0) = true := by simpa using k3
  by_cases k5 : r < 1
  · skip
    go_enter Try.func8, Try.ntmps8
    go_wp2_with (first | ((with_reducible apply load_sym); exact rfl; exact rfl; exact rfl; focus ((repeat' (first | (with_reducible assumption) | ((with_reducible apply Sym.new'); simp; done) | (with_reducible apply Sym.setRow_other) | (with_reducible apply Sym.alloc) | (simp; done) | omega | (simp; omega))); done)) | first | first | ((with_reducible apply load_bnd); exact rfl; exact rfl; exact rfl; focus ((repeat' (first | (with_reducible assumption) | ((with_reducible apply Bnd.new'); simp; done) | (with_reducible apply Bnd.setRow) | (with_reducible apply Bnd.setRow_other) | (with_reducible apply Bnd.alloc) | (simp; done) | omega | (simp; omega))); done)) | ((with_reducible apply store_bnd); exact rfl; exact rfl; exact rfl; exact rfl; exact rfl; exact rfl; focus ((repeat' (first | (with_reducible assumption) | ((with_reducible apply Bnd.new'); simp; done) | (with_reducible apply Bnd.setRow) | (with_reducible apply Bnd.setRow_other) | (with_reducible apply Bnd.alloc) | (simp; done) | omega | (simp; omega))); done)) | ((with_reducible apply beq_step); exact rfl; exact rfl; exact rfl; exact rfl; simp only [Act.put, List.setIfInBounds_toArray, List.set_cons_zero, List.set_cons_succ]) | ((with_reducible apply bneq_step); exact rfl; exact rfl; exact rfl; exact rfl; simp only [Act.put, List.setIfInBounds_toArray, List.set_cons_zero, List.set_cons_succ]) | first | ((with_reducible apply gload_bnd); exact rfl; exact rfl; exact rfl; focus ((repeat' (first | (with_reducible assumption) | ((with_reducible apply Bnd.new'); simp; done) | (with_reducible apply Bnd.setRow) | (with_reducible apply Bnd.setRow_other) | (with_reducible apply Bnd.alloc) | (simp; done) | omega | (simp; omega))); done)) | ((with_reducible apply geq_bnd); exact rfl; exact rfl; exact rfl; exact rfl; simp only [Act.put, List.setIfInBounds_toArray, List.set_cons_zero, List.set_cons_succ]) | ((with_reducible apply gneq_bnd); exact rfl; exact rfl; exact rfl; exact rfl; simp only [Act.put, List.setIfInBounds_toArray, List.set_cons_zero, List.set_cons_succ]))
    (with_reducible refine (symbol_any s _ Hg.out Hk.out).mono ?_)
    rintro e w1 ⟨rfl, hb⟩
    have tS1 : Sym w1 w.heap.size s := Sym.below (by (repeat' (first | (with_reducible assumption) | ((with_reducible apply Sym.new'); simp; done) | (with_reducible apply Sym.setRow_other) | (with_reducible apply Sym.alloc) | (simp; done) | omega | (simp; omega)))) hb (by first | omega | (simp; done) | (simp; omega))
    have B1 := hide (keep_below hb (by (repeat' (first | (with_reducible exact B0.out) | (with_reducible apply below_setRow) | (with_reducible apply Below.alloc) | omega | (simp; done) | (simp; omega)))) (by first | omega | (simp; done) | (simp; omega)) : Below w.heap.size w w1)
    have sB1 := B1.out.size
    clear hb
    have lS1 := tS1.lt
    rw [HS.out]
    dsimp only
    have c0 := tS1.cell 0 rfl
    go_wp2_with (first | ((with_reducible apply load_sym); exact rfl; exact rfl; exact rfl; focus ((repeat' (first | (with_reducible assumption) | ((with_reducible apply Sym.new'); simp; done) | (with_reducible apply Sym.setRow_other) | (with_reducible apply Sym.alloc) | (simp; done) | omega | (simp; omega))); done)) | first | first | ((with_reducible apply load_bnd); exact rfl; exact rfl; exact rfl; focus ((repeat' (first | (with_reducible assumption) | ((with_reducible apply Bnd.new'); simp; done) | (with_reducible apply Bnd.setRow) | (with_reducible apply Bnd.setRow_other) | (with_reducible apply Bnd.alloc) | (simp; done) | omega | (simp; omega))); done)) | ((with_reducible apply store_bnd); exact rfl; exact rfl; exact rfl; exact rfl; exact rfl; exact rfl; focus ((repeat' (first | (with_reducible assumption) | ((with_reducible apply Bnd.new'); simp; done) | (with_reducible apply Bnd.setRow) | (with_reducible apply Bnd.setRow_other) | (with_reducible apply Bnd.alloc) | (simp; done) | omega | (simp; omega))); done)) | ((with_reducible apply beq_step); exact rfl; exact rfl; exact rfl; exact rfl; simp only [Act.put, List.setIfInBounds_toArray, List.set_cons_zero, List.set_cons_succ]) | ((with_reducible apply bneq_step); exact rfl; exact rfl; exact rfl; exact rfl; simp only [Act.put, List.setIfInBounds_toArray, List.set_cons_zero, List.set_cons_succ]) | first | ((with_reducible apply gload_bnd); exact rfl; exact rfl; exact rfl; focus ((repeat' (first | (with_reducible assumption) | ((with_reducible apply Bnd.new'); simp; done) | (with_reducible apply Bnd.setRow) | (with_reducible apply Bnd.setRow_other) | (with_reducible apply Bnd.alloc) | (simp; done) | omega | (simp; omega))); done)) | ((with_reducible apply geq_bnd); exact rfl; exact rfl; exact rfl; exact rfl; simp only [Act.put, List.setIfInBounds_toArray, List.set_cons_zero, List.set_cons_succ]) | ((with_reducible apply gneq_bnd); exact rfl; exact rfl; exact rfl; exact rfl; simp only [Act.put, List.setIfInBounds_toArray, List.set_cons_zero, List.set_cons_succ]))
    (with_reducible refine (alive20_any _).mono ?_)
    rintro e w2 ⟨rfl, hb⟩
    have tS2 : Sym w2 w.heap.size s := Sym.below (by (repeat' (first | (with_reducible assumption) | ((with_reducible apply Sym.new'); simp; done) | (with_reducible apply Sym.setRow_other) | (with_reducible apply Sym.alloc) | (simp; done) | omega | (simp; omega)))) hb (by first | omega | (simp; done) | (simp; omega))
    have B2 := hide (keep_below hb (by (repeat' (first | (with_reducible exact B1.out) | (with_reducible apply below_setRow) | (with_reducible apply Below.alloc) | omega | (simp; done) | (simp; omega)))) (by first | omega | (simp; done) | (simp; omega)) : Below w.heap.size w w2)
    have sB2 := B2.out.size
    clear hb c0 tS1
    have lS2 := tS2.lt
    dsimp only
    go_wp2
    go_ret
    exact ⟨rfl, B2.out⟩
  by_cases k6 : ¬ r % s 0 = 0
  · have k7 : (r % s 0 == 0) = false := by simpa using k6
    have k7b : (r % s 0 != 0) = true := by simpa using k6
    go_enter Try.func8, Try.ntmps8
    go_wp2_with (first | ((with_reducible apply load_sym); exact rfl; exact rfl; exact rfl; focus ((repeat' (first | (with_reducible assumption) | ((with_reducible apply Sym.new'); simp; done) | (with_reducible apply Sym.setRow_other) | (with_reducible apply Sym.alloc) | (simp; done) | omega | (simp; omega))); done)) | first | first | ((with_reducible apply load_bnd); exact rfl; exact rfl; exact rfl; focus ((repeat' (first | (with_reducible assumption) | ((with_reducible apply Bnd.new'); simp; done) | (with_reducible apply Bnd.setRow) | (with_reducible apply Bnd.setRow_other) | (with_reducible apply Bnd.alloc) | (simp; done) | omega | (simp; omega))); done)) | ((with_reducible apply store_bnd); exact rfl; exact rfl; exact rfl; exact rfl; exact rfl; exact rfl; focus ((repeat' (first | (with_reducible assumption) | ((with_reducible apply Bnd.new'); simp; done) | (with_reducible apply Bnd.setRow) | (with_reducible apply Bnd.setRow_other) | (with_reducible apply Bnd.alloc) | (simp; done) | omega | (simp; omega))); done)) | ((with_reducible apply beq_step); exact rfl; exact rfl; exact rfl; exact rfl; simp only [Act.put, List.setIfInBounds_toArray, List.set_cons_zero, List.set_cons_succ]) | ((with_reducible apply bneq_step); exact rfl; exact rfl; exact rfl; exact rfl; simp only [Act.put, List.setIfInBounds_toArray, List.set_cons_zero, List.set_cons_succ]) | first | ((with_reducible apply gload_bnd); exact rfl; exact rfl; exact rfl; focus ((repeat' (first | (with_reducible assumption) | ((with_reducible apply Bnd.new'); simp; done) | (with_reducible apply Bnd.setRow) | (with_reducible apply Bnd.setRow_other) | (with_reducible apply Bnd.alloc) | (simp; done) | omega | (simp; omega))); done)) | ((with_reducible apply geq_bnd); exact rfl; exact rfl; exact rfl; exact rfl; simp only [Act.put, List.setIfInBounds_toArray, List.set_cons_zero, List.set_cons_succ]) | ((with_reducible apply gneq_bnd); exact rfl; exact rfl; exact rfl; exact rfl; simp only [Act.put, List.setIfInBounds_toArray, List.set_cons_zero, List.set_cons_succ]))
    (with_reducible refine (symbol_any s _ Hg.out Hk.out).mono ?_)
    rintro e w1 ⟨rfl, hb⟩
    have tS1 : Sym w1 w.heap.size s := Sym.below (by (repeat' (first | (with_reducible assumption) | ((with_reducible apply Sym.new'); simp; done) | (with_reducible apply Sym.setRow_other) | (with_reducible apply Sym.alloc) | (simp; done) | omega | (simp; omega)))) hb (by first | omega | (simp; done) | (simp; omega))
    have B1 := hide (keep_below hb (by (repeat' (first | (with_reducible exact B0.out) | (with_reducible apply below_setRow) | (with_reducible apply Below.alloc) | omega | (simp; done) | (simp; omega)))) (by first | omega | (simp; done) | (simp; omega)) : Below w.heap.size w w1)
    have sB1 := B1.out.size
    clear hb
    have lS1 := tS1.lt
    rw [HS.out]
    dsimp only
    have c0 := tS1.cell 0 rfl
    go_wp2_with (first | ((with_reducible apply load_sym); exact rfl; exact rfl; exact rfl; focus ((repeat' (first | (with_reducible assumption) | ((with_reducible apply Sym.new'); simp; done) | (with_reducible apply Sym.setRow_other) | (with_reducible apply Sym.alloc) | (simp; done) | omega | (simp; omega))); done)) | first | first | ((with_reducible apply load_bnd); exact rfl; exact rfl; exact rfl; focus ((repeat' (first | (with_reducible assumption) | ((with_reducible apply Bnd.new'); simp; done) | (with_reducible apply Bnd.setRow) | (with_reducible apply Bnd.setRow_other) | (with_reducible apply Bnd.alloc) | (simp; done) | omega | (simp; omega))); done)) | ((with_reducible apply store_bnd); exact rfl; exact rfl; exact rfl; exact rfl; exact rfl; exact rfl; focus ((repeat' (first | (with_reducible assumption) | ((with_reducible apply Bnd.new'); simp; done) | (with_reducible apply Bnd.setRow) | (with_reducible apply Bnd.setRow_other) | (with_reducible apply Bnd.alloc) | (simp; done) | omega | (simp; omega))); done)) | ((with_reducible apply beq_step); exact rfl; exact rfl; exact rfl; exact rfl; simp only [Act.put, List.setIfInBounds_toArray, List.set_cons_zero, List.set_cons_succ]) | ((with_reducible apply bneq_step); exact rfl; exact rfl; exact rfl; exact rfl; simp only [Act.put, List.setIfInBounds_toArray, List.set_cons_zero, List.set_cons_succ]) | first | ((with_reducible apply gload_bnd); exact rfl; exact rfl; exact rfl; focus ((repeat' (first | (with_reducible assumption) | ((with_reducible apply Bnd.new'); simp; done) | (with_reducible apply Bnd.setRow) | (with_reducible apply Bnd.setRow_other) | (with_reducible apply Bnd.alloc) | (simp; done) | omega | (simp; omega))); done)) | ((with_reducible apply geq_bnd); exact rfl; exact rfl; exact rfl; exact rfl; simp only [Act.put, List.setIfInBounds_toArray, List.set_cons_zero, List.set_cons_succ]) | ((with_reducible apply gneq_bnd); exact rfl; exact rfl; exact rfl; exact rfl; simp only [Act.put, List.setIfInBounds_toArray, List.set_cons_zero, List.set_cons_succ]))
    (with_reducible refine (alive20_any _).mono ?_)
    rintro e w2 ⟨rfl, hb⟩
    have tS2 : Sym w2 w.heap.size s := Sym.below (by (repeat' (first | (with_reducible assumption) | ((with_reducible apply Sym.new'); simp; done) | (with_reducible apply Sym.setRow_other) | (with_reducible apply Sym.alloc) | (simp; done) | omega | (simp; omega)))) hb (by first | omega | (simp; done) | (simp; omega))
    have B2 := hide (keep_below hb (by (repeat' (first | (with_reducible exact B1.out) | (with_reducible apply below_setRow) | (with_reducible apply Below.alloc) | omega | (simp; done) | (simp; omega)))) (by first | omega | (simp; done) | (simp; omega)) : Below w.heap.size w w2)
    have sB2 := B2.out.size
    clear hb c0 tS1
    have lS2 := tS2.lt
    dsimp only
    go_wp2
    go_ret
    exact ⟨rfl, B2.out⟩
  replace k6 := Classical.not_not.1 k6
  have k7 : (r % s 0 == 0) = true := by simpa using k6
  obtain ⟨lo, hi, hA, hI, hR⟩ := holds_law HS.out (by omega) (by omega) k3 (by omega) k6
  have HA := hide hA
  have HI := hide hI
  have HR := hide hR
  clear hA hI hR
  by_cases k8 : ¬ inF lo hi r = true
  · have K8 : Hid (inF lo hi r = false) := hide (by simpa using k8)
    clear k8
    go_enter Try.func8, Try.ntmps8
    go_wp2_with (first | ((with_reducible apply load_sym); exact rfl; exact rfl; exact rfl; focus ((repeat' (first | (with_reducible assumption) | ((with_reducible apply Sym.new'); simp; done) | (with_reducible apply Sym.setRow_other) | (with_reducible apply Sym.alloc) | (simp; done) | omega | (simp; omega))); done)) | first | first | ((with_reducible apply load_bnd); exact rfl; exact rfl; exact rfl; focus ((repeat' (first | (with_reducible assumption) | ((with_reducible apply Bnd.new'); simp; done) | (with_reducible apply Bnd.setRow) | (with_reducible apply Bnd.setRow_other) | (with_reducible apply Bnd.alloc) | (simp; done) | omega | (simp; omega))); done)) | ((with_reducible apply store_bnd); exact rfl; exact rfl; exact rfl; exact rfl; exact rfl; exact rfl; focus ((repeat' (first | (with_reducible assumption) | ((with_reducible apply Bnd.new'); simp; done) | (with_reducible apply Bnd.setRow) | (with_reducible apply Bnd.setRow_other) | (with_reducible apply Bnd.alloc) | (simp; done) | omega | (simp; omega))); done)) | ((with_reducible apply beq_step); exact rfl; exact rfl; exact rfl; exact rfl; simp only [Act.put, List.setIfInBounds_toArray, List.set_cons_zero, List.set_cons_succ]) | ((with_reducible apply bneq_step); exact rfl; exact rfl; exact rfl; exact rfl; simp only [Act.put, List.setIfInBounds_toArray, List.set_cons_zero, List.set_cons_succ]) | first | ((with_reducible apply gload_bnd); exact rfl; exact rfl; exact rfl; focus ((repeat' (first | (with_reducible assumption) | ((with_reducible apply Bnd.new'); simp; done) | (with_reducible apply Bnd.setRow) | (with_reducible apply Bnd.setRow_other) | (with_reducible apply Bnd.alloc) | (simp; done) | omega | (simp; omega))); done)) | ((with_reducible apply geq_bnd); exact rfl; exact rfl; exact rfl; exact rfl; simp only [Act.put, List.setIfInBounds_toArray, List.set_cons_zero, List.set_cons_succ]) | ((with_reducible apply gneq_bnd); exact rfl; exact rfl; exact rfl; exact rfl; simp only [Act.put, List.setIfInBounds_toArray, List.set_cons_zero, List.set_cons_succ]))
    (with_reducible refine (symbol_any s _ Hg.out Hk.out).mono ?_)
    rintro e w1 ⟨rfl, hb⟩
    have tS1 : Sym w1 w.heap.size s := Sym.below (by (repeat' (first | (with_reducible assumption) | ((with_reducible apply Sym.new'); simp; done) | (with_reducible apply Sym.setRow_other) | (with_reducible apply Sym.alloc) | (simp; done) | omega | (simp; omega)))) hb (by first | omega | (simp; done) | (simp; omega))
    have B1 := hide (keep_below hb (by (repeat' (first | (with_reducible exact B0.out) | (with_reducible apply below_setRow) | (with_reducible apply Below.alloc) | omega | (simp; done) | (simp; omega)))) (by first | omega | (simp; done) | (simp; omega)) : Below w.heap.size w w1)
    have sB1 := B1.out.size
    clear hb
    have lS1 := tS1.lt
    rw [HS.out]
    dsimp only
    have c0 := tS1.cell 0 rfl
    go_wp2_with (first | ((with_reducible apply load_sym); exact rfl; exact rfl; exact rfl; focus ((repeat' (first | (with_reducible assumption) | ((with_reducible apply Sym.new'); simp; done) | (with_reducible apply Sym.setRow_other) | (with_reducible apply Sym.alloc) | (simp; done) | omega | (simp; omega))); done)) | first | first | ((with_reducible apply load_bnd); exact rfl; exact rfl; exact rfl; focus ((repeat' (first | (with_reducible assumption) | ((with_reducible apply Bnd.new'); simp; done) | (with_reducible apply Bnd.setRow) | (with_reducible apply Bnd.setRow_other) | (with_reducible apply Bnd.alloc) | (simp; done) | omega | (simp; omega))); done)) | ((with_reducible apply store_bnd); exact rfl; exact rfl; exact rfl; exact rfl; exact rfl; exact rfl; focus ((repeat' (first | (with_reducible assumption) | ((with_reducible apply Bnd.new'); simp; done) | (with_reducible apply Bnd.setRow) | (with_reducible apply Bnd.setRow_other) | (with_reducible apply Bnd.alloc) | (simp; done) | omega | (simp; omega))); done)) | ((with_reducible apply beq_step); exact rfl; exact rfl; exact rfl; exact rfl; simp only [Act.put, List.setIfInBounds_toArray, List.set_cons_zero, List.set_cons_succ]) | ((with_reducible apply bneq_step); exact rfl; exact rfl; exact rfl; exact rfl; simp only [Act.put, List.setIfInBounds_toArray, List.set_cons_zero, List.set_cons_succ]) | first | ((with_reducible apply gload_bnd); exact rfl; exact rfl; exact rfl; focus ((repeat' (first | (with_reducible assumption) | ((with_reducible apply Bnd.new'); simp; done) | (with_reducible apply Bnd.setRow) | (with_reducible apply Bnd.setRow_other) | (with_reducible apply Bnd.alloc) | (simp; done) | omega | (simp; omega))); done)) | ((with_reducible apply geq_bnd); exact rfl; exact rfl; exact rfl; exact rfl; simp only [Act.put, List.setIfInBounds_toArray, List.set_cons_zero, List.set_cons_succ]) | ((with_reducible apply gneq_bnd); exact rfl; exact rfl; exact rfl; exact rfl; simp only [Act.put, List.setIfInBounds_toArray, List.set_cons_zero, List.set_cons_succ]))
    (with_reducible refine (static_any s first _ Hg.out).mono ?_)
    rintro e w2 ⟨rfl, hb⟩
    have tS2 : Sym w2 w.heap.size s := Sym.below (by (repeat' (first | (with_reducible assumption) | ((with_reducible apply Sym.new'); simp; done) | (with_reducible apply Sym.setRow_other) | (with_reducible apply Sym.alloc) | (simp; done) | omega | (simp; omega)))) hb (by first | omega | (simp; done) | (simp; omega))
    have B2 := hide (keep_below hb (by (repeat' (first | (with_reducible exact B1.out) | (with_reducible apply below_setRow) | (with_reducible apply Below.alloc) | omega | (simp; done) | (simp; omega)))) (by first | omega | (simp; done) | (simp; omega)) : Below w.heap.size w w2)
    have sB2 := B2.out.size
    clear hb c0 tS1
    have lS2 := tS2.lt
    rw [HA.out, optB_some]
    dsimp only
    go_wp2_with (first | ((with_reducible apply load_sym); exact rfl; exact rfl; exact rfl; focus ((repeat' (first | (with_reducible assumption) | ((with_reducible apply Sym.new'); simp; done) | (with_reducible apply Sym.setRow_other) | (with_reducible apply Sym.alloc) | (simp; done) | omega | (simp; omega))); done)) | first | first | ((with_reducible apply load_bnd); exact rfl; exact rfl; exact rfl; focus ((repeat' (first | (with_reducible assumption) | ((with_reducible apply Bnd.new'); simp; done) | (with_reducible apply Bnd.setRow) | (with_reducible apply Bnd.setRow_other) | (with_reducible apply Bnd.alloc) | (simp; done) | omega | (simp; omega))); done)) | ((with_reducible apply store_bnd); exact rfl; exact rfl; exact rfl; exact rfl; exact rfl; exact rfl; focus ((repeat' (first | (with_reducible assumption) | ((with_reducible apply Bnd.new'); simp; done) | (with_reducible apply Bnd.setRow) | (with_reducible apply Bnd.setRow_other) | (with_reducible apply Bnd.alloc) | (simp; done) | omega | (simp; omega))); done)) | ((with_reducible apply beq_step); exact rfl; exact rfl; exact rfl; exact rfl; simp only [Act.put, List.setIfInBounds_toArray, List.set_cons_zero, List.set_cons_succ]) | ((with_reducible apply bneq_step); exact rfl; exact rfl; exact rfl; exact rfl; simp only [Act.put, List.setIfInBounds_toArray, List.set_cons_zero, List.set_cons_succ]) | first | ((with_reducible apply gload_bnd); exact rfl; exact rfl; exact rfl; focus ((repeat' (first | (with_reducible assumption) | ((with_reducible apply Bnd.new'); simp; done) | (with_reducible apply Bnd.setRow) | (with_reducible apply Bnd.setRow_other) | (with_reducible apply Bnd.alloc) | (simp; done) | omega | (simp; omega))); done)) | ((with_reducible apply geq_bnd); exact rfl; exact rfl; exact rfl; exact rfl; simp only [Act.put, List.setIfInBounds_toArray, List.set_cons_zero, List.set_cons_succ]) | ((with_reducible apply gneq_bnd); exact rfl; exact rfl; exact rfl; exact rfl; simp only [Act.put, List.setIfInBounds_toArray, List.set_cons_zero, List.set_cons_succ]))
    (with_reducible refine (in_any lo hi first _).mono ?_)
    rintro e w3 ⟨rfl, hb⟩
    have tS3 : Sym w3 w.heap.size s := Sym.below (by (repeat' (first | (with_reducible assumption) | ((with_reducible apply Sym.new'); simp; done) | (with_reducible apply Sym.setRow_other) | (with_reducible apply Sym.alloc) | (simp; done) | omega | (simp; omega)))) hb (by first | omega | (simp; done) | (simp; omega))
    have tA3 : Bnd w3 w2.heap.size (.int .i64 lo) (.int .i64 hi) := Bnd.below (by (repeat' (first | (with_reducible assumption) | ((with_reducible apply Bnd.new'); simp; done) | (with_reducible apply Bnd.setRow) | (with_reducible apply Bnd.setRow_other) | (with_reducible apply Bnd.alloc) | (simp; done) | omega | (simp; omega)))) hb (by first | omega | (simp; done) | (simp; omega))
    have B3 := hide (keep_below hb (by (repeat' (first | (with_reducible exact B2.out) | (with_reducible apply below_setRow) | (with_reducible apply Below.alloc) | omega | (simp; done) | (simp; omega)))) (by first | omega | (simp; done) | (simp; omega)) : Below w.heap.size w w3)
    have sB3 := B3.out.size
    clear hb tS2
    have lS3 := tS3.lt
    have lA3 := tA3.lt
    rw [HI.out]
    dsimp only
    go_wp2_with (first | ((with_reducible apply load_sym); exact rfl; exact rfl; exact rfl; focus ((repeat' (first | (with_reducible assumption) | ((with_reducible apply Sym.new'); simp; done) | (with_reducible apply Sym.setRow_other) | (with_reducible apply Sym.alloc) | (simp; done) | omega | (simp; omega))); done)) | first | first | ((with_reducible apply load_bnd); exact rfl; exact rfl; exact rfl; focus ((repeat' (first | (with_reducible assumption) | ((with_reducible apply Bnd.new'); simp; done) | (with_reducible apply Bnd.setRow) | (with_reducible apply Bnd.setRow_other) | (with_reducible apply Bnd.alloc) | (simp; done) | omega | (simp; omega))); done)) | ((with_reducible apply store_bnd); exact rfl; exact rfl; exact rfl; exact rfl; exact rfl; exact rfl; focus ((repeat' (first | (with_reducible assumption) | ((with_reducible apply Bnd.new'); simp; done) | (with_reducible apply Bnd.setRow) | (with_reducible apply Bnd.setRow_other) | (with_reducible apply Bnd.alloc) | (simp; done) | omega | (simp; omega))); done)) | ((with_reducible apply beq_step); exact rfl; exact rfl; exact rfl; exact rfl; simp only [Act.put, List.setIfInBounds_toArray, List.set_cons_zero, List.set_cons_succ]) | ((with_reducible apply bneq_step); exact rfl; exact rfl; exact rfl; exact rfl; simp only [Act.put, List.setIfInBounds_toArray, List.set_cons_zero, List.set_cons_succ]) | first | ((with_reducible apply gload_bnd); exact rfl; exact rfl; exact rfl; focus ((repeat' (first | (with_reducible assumption) | ((with_reducible apply Bnd.new'); simp; done) | (with_reducible apply Bnd.setRow) | (with_reducible apply Bnd.setRow_other) | (with_reducible apply Bnd.alloc) | (simp; done) | omega | (simp; omega))); done)) | ((with_reducible apply geq_bnd); exact rfl; exact rfl; exact rfl; exact rfl; simp only [Act.put, List.setIfInBounds_toArray, List.set_cons_zero, List.set_cons_succ]) | ((with_reducible apply gneq_bnd); exact rfl; exact rfl; exact rfl; exact rfl; simp only [Act.put, List.setIfInBounds_toArray, List.set_cons_zero, List.set_cons_succ]))
    (with_reducible refine (in_any lo hi r _).mono ?_)
    rintro e w4 ⟨rfl, hb⟩
    have tS4 : Sym w4 w.heap.size s := Sym.below (by (repeat' (first | (with_reducible assumption) | ((with_reducible apply Sym.new'); simp; done) | (with_reducible apply Sym.setRow_other) | (with_reducible apply Sym.alloc) | (simp; done) | omega | (simp; omega)))) hb (by first | omega | (simp; done) | (simp; omega))
    have tA4 : Bnd w4 w2.heap.size (.int .i64 lo) (.int .i64 hi) := Bnd.below (by (repeat' (first | (with_reducible assumption) | ((with_reducible apply Bnd.new'); simp; done) | (with_reducible apply Bnd.setRow) | (with_reducible apply Bnd.setRow_other) | (with_reducible apply Bnd.alloc) | (simp; done) | omega | (simp; omega)))) hb (by first | omega | (simp; done) | (simp; omega))
    have B4 := hide (keep_below hb (by (repeat' (first | (with_reducible exact B3.out) | (with_reducible apply below_setRow) | (with_reducible apply Below.alloc) | omega | (simp; done) | (simp; omega)))) (by first | omega | (simp; done) | (simp; omega)) : Below w.heap.size w w4)
    have sB4 := B4.out.size
    clear hb tS3 tA3
    have lS4 := tS4.lt
    have lA4 := tA4.lt
    rw [K8.out]
    dsimp only
    go_wp2_with (first | ((with_reducible apply load_sym); exact rfl; exact rfl; exact rfl; focus ((repeat' (first | (with_reducible assumption) | ((with_reducible apply Sym.new'); simp; done) | (with_reducible apply Sym.setRow_other) | (with_reducible apply Sym.alloc) | (simp; done) | omega | (simp; omega))); done)) | first | first | ((with_reducible apply load_bnd); exact rfl; exact rfl; exact rfl; focus ((repeat' (first | (with_reducible assumption) | ((with_reducible apply Bnd.new'); simp; done) | (with_reducible apply Bnd.setRow) | (with_reducible apply Bnd.setRow_other) | (with_reducible apply Bnd.alloc) | (simp; done) | omega | (simp; omega))); done)) | ((with_reducible apply store_bnd); exact rfl; exact rfl; exact rfl; exact rfl; exact rfl; exact rfl; focus ((repeat' (first | (with_reducible assumption) | ((with_reducible apply Bnd.new'); simp; done) | (with_reducible apply Bnd.setRow) | (with_reducible apply Bnd.setRow_other) | (with_reducible apply Bnd.alloc) | (simp; done) | omega | (simp; omega))); done)) | ((with_reducible apply beq_step); exact rfl; exact rfl; exact rfl; exact rfl; simp only [Act.put, List.setIfInBounds_toArray, List.set_cons_zero, List.set_cons_succ]) | ((with_reducible apply bneq_step); exact rfl; exact rfl; exact rfl; exact rfl; simp only [Act.put, List.setIfInBounds_toArray, List.set_cons_zero, List.set_cons_succ]) | first | ((with_reducible apply gload_bnd); exact rfl; exact rfl; exact rfl; focus ((repeat' (first | (with_reducible assumption) | ((with_reducible apply Bnd.new'); simp; done) | (with_reducible apply Bnd.setRow) | (with_reducible apply Bnd.setRow_other) | (with_reducible apply Bnd.alloc) | (simp; done) | omega | (simp; omega))); done)) | ((with_reducible apply geq_bnd); exact rfl; exact rfl; exact rfl; exact rfl; simp only [Act.put, List.setIfInBounds_toArray, List.set_cons_zero, List.set_cons_succ]) | ((with_reducible apply gneq_bnd); exact rfl; exact rfl; exact rfl; exact rfl; simp only [Act.put, List.setIfInBounds_toArray, List.set_cons_zero, List.set_cons_succ]))
    (with_reducible refine (alive20_any _).mono ?_)
    rintro e w5 ⟨rfl, hb⟩
    have tS5 : Sym w5 w.heap.size s := Sym.below (by (repeat' (first | (with_reducible assumption) | ((with_reducible apply Sym.new'); simp; done) | (with_reducible apply Sym.setRow_other) | (with_reducible apply Sym.alloc) | (simp; done) | omega | (simp; omega)))) hb (by first | omega | (simp; done) | (simp; omega))
    have tA5 : Bnd w5 w2.heap.size (.int .i64 lo) (.int .i64 hi) := Bnd.below (by (repeat' (first | (with_reducible assumption) | ((with_reducible apply Bnd.new'); simp; done) | (with_reducible apply Bnd.setRow) | (with_reducible apply Bnd.setRow_other) | (with_reducible apply Bnd.alloc) | (simp; done) | omega | (simp; omega)))) hb (by first | omega | (simp; done) | (simp; omega))
    have B5 := hide (keep_below hb (by (repeat' (first | (with_reducible exact B4.out) | (with_reducible apply below_setRow) | (with_reducible apply Below.alloc) | omega | (simp; done) | (simp; omega)))) (by first | omega | (simp; done) | (simp; omega)) : Below w.heap.size w w5)
    have sB5 := B5.out.size
    clear hb tS4 tA4
    have lS5 := tS5.lt
    have lA5 := tA5.lt
    dsimp only
    go_wp2
    go_ret
    exact ⟨rfl, B5.out⟩
  replace k8 := Classical.not_not.1 k8
  have K8 := hide k8
  clear k8
  by_cases k9 : 1099511627776 < r
  · go_enter Try.func8, Try.ntmps8
    go_wp2_with (first | ((with_reducible apply load_sym); exact rfl; exact rfl; exact rfl; focus ((repeat' (first | (with_reducible assumption) | ((with_reducible apply Sym.new'); simp; done) | (with_reducible apply Sym.setRow_other) | (with_reducible apply Sym.alloc) | (simp; done) | omega | (simp; omega))); done)) | first | first | ((with_reducible apply load_bnd); exact rfl; exact rfl; exact rfl; focus ((repeat' (first | (with_reducible assumption) | ((with_reducible apply Bnd.new'); simp; done) | (with_reducible apply Bnd.setRow) | (with_reducible apply Bnd.setRow_other) | (with_reducible apply Bnd.alloc) | (simp; done) | omega | (simp; omega))); done)) | ((with_reducible apply store_bnd); exact rfl; exact rfl; exact rfl; exact rfl; exact rfl; exact rfl; focus ((repeat' (first | (with_reducible assumption) | ((with_reducible apply Bnd.new'); simp; done) | (with_reducible apply Bnd.setRow) | (with_reducible apply Bnd.setRow_other) | (with_reducible apply Bnd.alloc) | (simp; done) | omega | (simp; omega))); done)) | ((with_reducible apply beq_step); exact rfl; exact rfl; exact rfl; exact rfl; simp only [Act.put, List.setIfInBounds_toArray, List.set_cons_zero, List.set_cons_succ]) | ((with_reducible apply bneq_step); exact rfl; exact rfl; exact rfl; exact rfl; simp only [Act.put, List.setIfInBounds_toArray, List.set_cons_zero, List.set_cons_succ]) | first | ((with_reducible apply gload_bnd); exact rfl; exact rfl; exact rfl; focus ((repeat' (first | (with_reducible assumption) | ((with_reducible apply Bnd.new'); simp; done) | (with_reducible apply Bnd.setRow) | (with_reducible apply Bnd.setRow_other) | (with_reducible apply Bnd.alloc) | (simp; done) | omega | (simp; omega))); done)) | ((with_reducible apply geq_bnd); exact rfl; exact rfl; exact rfl; exact rfl; simp only [Act.put, List.setIfInBounds_toArray, List.set_cons_zero, List.set_cons_succ]) | ((with_reducible apply gneq_bnd); exact rfl; exact rfl; exact rfl; exact rfl; simp only [Act.put, List.setIfInBounds_toArray, List.set_cons_zero, List.set_cons_succ]))
    (with_reducible refine (symbol_any s _ Hg.out Hk.out).mono ?_)
    rintro e w1 ⟨rfl, hb⟩
    have tS1 : Sym w1 w.heap.size s := Sym.below (by (repeat' (first | (with_reducible assumption) | ((with_reducible apply Sym.new'); simp; done) | (with_reducible apply Sym.setRow_other) | (with_reducible apply Sym.alloc) | (simp; done) | omega | (simp; omega)))) hb (by first | omega | (simp; done) | (simp; omega))
    have B1 := hide (keep_below hb (by (repeat' (first | (with_reducible exact B0.out) | (with_reducible apply below_setRow) | (with_reducible apply Below.alloc) | omega | (simp; done) | (simp; omega)))) (by first | omega | (simp; done) | (simp; omega)) : Below w.heap.size w w1)
    have sB1 := B1.out.size
    clear hb
    have lS1 := tS1.lt
    rw [HS.out]
    dsimp only
    have c0 := tS1.cell 0 rfl
    go_wp2_with (first | ((with_reducible apply load_sym); exact rfl; exact rfl; exact rfl; focus ((repeat' (first | (with_reducible assumption) | ((with_reducible apply Sym.new'); simp; done) | (with_reducible apply Sym.setRow_other) | (with_reducible apply Sym.alloc) | (simp; done) | omega | (simp; omega))); done)) | first | first | ((with_reducible apply load_bnd); exact rfl; exact rfl; exact rfl; focus ((repeat' (first | (with_reducible assumption) | ((with_reducible apply Bnd.new'); simp; done) | (with_reducible apply Bnd.setRow) | (with_reducible apply Bnd.setRow_other) | (with_reducible apply Bnd.alloc) | (simp; done) | omega | (simp; omega))); done)) | ((with_reducible apply store_bnd); exact rfl; exact rfl; exact rfl; exact rfl; exact rfl; exact rfl; focus ((repeat' (first | (with_reducible assumption) | ((with_reducible apply Bnd.new'); simp; done) | (with_reducible apply Bnd.setRow) | (with_reducible apply Bnd.setRow_other) | (with_reducible apply Bnd.alloc) | (simp; done) | omega | (simp; omega))); done)) | ((with_reducible apply beq_step); exact rfl; exact rfl; exact rfl; exact rfl; simp only [Act.put, List.setIfInBounds_toArray, List.set_cons_zero, List.set_cons_succ]) | ((with_reducible apply bneq_step); exact rfl; exact rfl; exact rfl; exact rfl; simp only [Act.put, List.setIfInBounds_toArray, List.set_cons_zero, List.set_cons_succ]) | first | ((with_reducible apply gload_bnd); exact rfl; exact rfl; exact rfl; focus ((repeat' (first | (with_reducible assumption) | ((with_reducible apply Bnd.new'); simp; done) | (with_reducible apply Bnd.setRow) | (with_reducible apply Bnd.setRow_other) | (with_reducible apply Bnd.alloc) | (simp; done) | omega | (simp; omega))); done)) | ((with_reducible apply geq_bnd); exact rfl; exact rfl; exact rfl; exact rfl; simp only [Act.put, List.setIfInBounds_toArray, List.set_cons_zero, List.set_cons_succ]) | ((with_reducible apply gneq_bnd); exact rfl; exact rfl; exact rfl; exact rfl; simp only [Act.put, List.setIfInBounds_toArray, List.set_cons_zero, List.set_cons_succ]))
    (with_reducible refine (static_any s first _ Hg.out).mono ?_)
    rintro e w2 ⟨rfl, hb⟩
    have tS2 : Sym w2 w.heap.size s := Sym.below (by (repeat' (first | (with_reducible assumption) | ((with_reducible apply Sym.new'); simp; done) | (with_reducible apply Sym.setRow_other) | (with_reducible apply Sym.alloc) | (simp; done) | omega | (simp; omega)))) hb (by first | omega | (simp; done) | (simp; omega))
    have B2 := hide (keep_below hb (by (repeat' (first | (with_reducible exact B1.out) | (with_reducible apply below_setRow) | (with_reducible apply Below.alloc) | omega | (simp; done) | (simp; omega)))) (by first | omega | (simp; done) | (simp; omega)) : Below w.heap.size w w2)
    have sB2 := B2.out.size
    clear hb c0 tS1
    have lS2 := tS2.lt
    rw [HA.out, optB_some]
    dsimp only
    go_wp2_with (first | ((with_reducible apply load_sym); exact rfl; exact rfl; exact rfl; focus ((repeat' (first | (with_reducible assumption) | ((with_reducible apply Sym.new'); simp; done) | (with_reducible apply Sym.setRow_other) | (with_reducible apply Sym.alloc) | (simp; done) | omega | (simp; omega))); done)) | first | first | ((with_reducible apply load_bnd); exact rfl; exact rfl; exact rfl; focus ((repeat' (first | (with_reducible assumption) | ((with_reducible apply Bnd.new'); simp; done) | (with_reducible apply Bnd.setRow) | (with_reducible apply Bnd.setRow_other) | (with_reducible apply Bnd.alloc) | (simp; done) | omega | (simp; omega))); done)) | ((with_reducible apply store_bnd); exact rfl; exact rfl; exact rfl; exact rfl; exact rfl; exact rfl; focus ((repeat' (first | (with_reducible assumption) | ((with_reducible apply Bnd.new'); simp; done) | (with_reducible apply Bnd.setRow) | (with_reducible apply Bnd.setRow_other) | (with_reducible apply Bnd.alloc) | (simp; done) | omega | (simp; omega))); done)) | ((with_reducible apply beq_step); exact rfl; exact rfl; exact rfl; exact rfl; simp only [Act.put, List.setIfInBounds_toArray, List.set_cons_zero, List.set_cons_succ]) | ((with_reducible apply bneq_step); exact rfl; exact rfl; exact rfl; exact rfl; simp only [Act.put, List.setIfInBounds_toArray, List.set_cons_zero, List.set_cons_succ]) | first | ((with_reducible apply gload_bnd); exact rfl; exact rfl; exact rfl; focus ((repeat' (first | (with_reducible assumption) | ((with_reducible apply Bnd.new'); simp; done) | (with_reducible apply Bnd.setRow) | (with_reducible apply Bnd.setRow_other) | (with_reducible apply Bnd.alloc) | (simp; done) | omega | (simp; omega))); done)) | ((with_reducible apply geq_bnd); exact rfl; exact rfl; exact rfl; exact rfl; simp only [Act.put, List.setIfInBounds_toArray, List.set_cons_zero, List.set_cons_succ]) | ((with_reducible apply gneq_bnd); exact rfl; exact rfl; exact rfl; exact rfl; simp only [Act.put, List.setIfInBounds_toArray, List.set_cons_zero, List.set_cons_succ]))
    (with_reducible refine (in_any lo hi first _).mono ?_)
    rintro e w3 ⟨rfl, hb⟩
    have tS3 : Sym w3 w.heap.size s := Sym.below (by (repeat' (first | (with_reducible assumption) | ((with_reducible apply Sym.new'); simp; done) | (with_reducible apply Sym.setRow_other) | (with_reducible apply Sym.alloc) | (simp; done) | omega | (simp; omega)))) hb (by first | omega | (simp; done) | (simp; omega))
    have tA3 : Bnd w3 w2.heap.size (.int .i64 lo) (.int .i64 hi) := Bnd.below (by (repeat' (first | (with_reducible assumption) | ((with_reducible apply Bnd.new'); simp; done) | (with_reducible apply Bnd.setRow) | (with_reducible apply Bnd.setRow_other) | (with_reducible apply Bnd.alloc) | (simp; done) | omega | (simp; omega)))) hb (by first | omega | (simp; done) | (simp; omega))
    have B3 := hide (keep_below hb (by (repeat' (first | (with_reducible exact B2.out) | (with_reducible apply below_setRow) | (with_reducible apply Below.alloc) | omega | (simp; done) | (simp; omega)))) (by first | omega | (simp; done) | (simp; omega)) : Below w.heap.size w w3)
    have sB3 := B3.out.size
    clear hb tS2
    have lS3 := tS3.lt
    have lA3 := tA3.lt
    rw [HI.out]
    dsimp only
    go_wp2_with (first | ((with_reducible apply load_sym); exact rfl; exact rfl; exact rfl; focus ((repeat' (first | (with_reducible assumption) | ((with_reducible apply Sym.new'); simp; done) | (with_reducible apply Sym.setRow_other) | (with_reducible apply Sym.alloc) | (simp; done) | omega | (simp; omega))); done)) | first | first | ((with_reducible apply load_bnd); exact rfl; exact rfl; exact rfl; focus ((repeat' (first | (with_reducible assumption) | ((with_reducible apply Bnd.new'); simp; done) | (with_reducible apply Bnd.setRow) | (with_reducible apply Bnd.setRow_other) | (with_reducible apply Bnd.alloc) | (simp; done) | omega | (simp; omega))); done)) | ((with_reducible apply store_bnd); exact rfl; exact rfl; exact rfl; exact rfl; exact rfl; exact rfl; focus ((repeat' (first | (with_reducible assumption) | ((with_reducible apply Bnd.new'); simp; done) | (with_reducible apply Bnd.setRow) | (with_reducible apply Bnd.setRow_other) | (with_reducible apply Bnd.alloc) | (simp; done) | omega | (simp; omega))); done)) | ((with_reducible apply beq_step); exact rfl; exact rfl; exact rfl; exact rfl; simp only [Act.put, List.setIfInBounds_toArray, List.set_cons_zero, List.set_cons_succ]) | ((with_reducible apply bneq_step); exact rfl; exact rfl; exact rfl; exact rfl; simp only [Act.put, List.setIfInBounds_toArray, List.set_cons_zero, List.set_cons_succ]) | first | ((with_reducible apply gload_bnd); exact rfl; exact rfl; exact rfl; focus ((repeat' (first | (with_reducible assumption) | ((with_reducible apply Bnd.new'); simp; done) | (with_reducible apply Bnd.setRow) | (with_reducible apply Bnd.setRow_other) | (with_reducible apply Bnd.alloc) | (simp; done) | omega | (simp; omega))); done)) | ((with_reducible apply geq_bnd); exact rfl; exact rfl; exact rfl; exact rfl; simp only [Act.put, List.setIfInBounds_toArray, List.set_cons_zero, List.set_cons_succ]) | ((with_reducible apply gneq_bnd); exact rfl; exact rfl; exact rfl; exact rfl; simp only [Act.put, List.setIfInBounds_toArray, List.set_cons_zero, List.set_cons_succ]))
    (with_reducible refine (in_any lo hi r _).mono ?_)
    rintro e w4 ⟨rfl, hb⟩
    have tS4 : Sym w4 w.heap.size s := Sym.below (by (repeat' (first | (with_reducible assumption) | ((with_reducible apply Sym.new'); simp; done) | (with_reducible apply Sym.setRow_other) | (with_reducible apply Sym.alloc) | (simp; done) | omega | (simp; omega)))) hb (by first | omega | (simp; done) | (simp; omega))
    have tA4 : Bnd w4 w2.heap.size (.int .i64 lo) (.int .i64 hi) := Bnd.below (by (repeat' (first | (with_reducible assumption) | ((with_reducible apply Bnd.new'); simp; done) | (with_reducible apply Bnd.setRow) | (with_reducible apply Bnd.setRow_other) | (with_reducible apply Bnd.alloc) | (simp; done) | omega | (simp; omega)))) hb (by first | omega | (simp; done) | (simp; omega))
    have B4 := hide (keep_below hb (by (repeat' (first | (with_reducible exact B3.out) | (with_reducible apply below_setRow) | (with_reducible apply Below.alloc) | omega | (simp; done) | (simp; omega)))) (by first | omega | (simp; done) | (simp; omega)) : Below w.heap.size w w4)
    have sB4 := B4.out.size
    clear hb tS3 tA3
    have lS4 := tS4.lt
    have lA4 := tA4.lt
    rw [K8.out]
    dsimp only
    go_wp2_with (first | ((with_reducible apply load_sym); exact rfl; exact rfl; exact rfl; focus ((repeat' (first | (with_reducible assumption) | ((with_reducible apply Sym.new'); simp; done) | (with_reducible apply Sym.setRow_other) | (with_reducible apply Sym.alloc) | (simp; done) | omega | (simp; omega))); done)) | first | first | ((with_reducible apply load_bnd); exact rfl; exact rfl; exact rfl; focus ((repeat' (first | (with_reducible assumption) | ((with_reducible apply Bnd.new'); simp; done) | (with_reducible apply Bnd.setRow) | (with_reducible apply Bnd.setRow_other) | (with_reducible apply Bnd.alloc) | (simp; done) | omega | (simp; omega))); done)) | ((with_reducible apply store_bnd); exact rfl; exact rfl; exact rfl; exact rfl; exact rfl; exact rfl; focus ((repeat' (first | (with_reducible assumption) | ((with_reducible apply Bnd.new'); simp; done) | (with_reducible apply Bnd.setRow) | (with_reducible apply Bnd.setRow_other) | (with_reducible apply Bnd.alloc) | (simp; done) | omega | (simp; omega))); done)) | ((with_reducible apply beq_step); exact rfl; exact rfl; exact rfl; exact rfl; simp only [Act.put, List.setIfInBounds_toArray, List.set_cons_zero, List.set_cons_succ]) | ((with_reducible apply bneq_step); exact rfl; exact rfl; exact rfl; exact rfl; simp only [Act.put, List.setIfInBounds_toArray, List.set_cons_zero, List.set_cons_succ]) | first | ((with_reducible apply gload_bnd); exact rfl; exact rfl; exact rfl; focus ((repeat' (first | (with_reducible assumption) | ((with_reducible apply Bnd.new'); simp; done) | (with_reducible apply Bnd.setRow) | (with_reducible apply Bnd.setRow_other) | (with_reducible apply Bnd.alloc) | (simp; done) | omega | (simp; omega))); done)) | ((with_reducible apply geq_bnd); exact rfl; exact rfl; exact rfl; exact rfl; simp only [Act.put, List.setIfInBounds_toArray, List.set_cons_zero, List.set_cons_succ]) | ((with_reducible apply gneq_bnd); exact rfl; exact rfl; exact rfl; exact rfl; simp only [Act.put, List.setIfInBounds_toArray, List.set_cons_zero, List.set_cons_succ]))
    (with_reducible refine (alive20_any _).mono ?_)
    rintro e w5 ⟨rfl, hb⟩
    have tS5 : Sym w5 w.heap.size s := Sym.below (by (repeat' (first | (with_reducible assumption) | ((with_reducible apply Sym.new'); simp; done) | (with_reducible apply Sym.setRow_other) | (with_reducible apply Sym.alloc) | (simp; done) | omega | (simp; omega)))) hb (by first | omega | (simp; done) | (simp; omega))
    have tA5 : Bnd w5 w2.heap.size (.int .i64 lo) (.int .i64 hi) := Bnd.below (by (repeat' (first | (with_reducible assumption) | ((with_reducible apply Bnd.new'); simp; done) | (with_reducible apply Bnd.setRow) | (with_reducible apply Bnd.setRow_other) | (with_reducible apply Bnd.alloc) | (simp; done) | omega | (simp; omega)))) hb (by first | omega | (simp; done) | (simp; omega))
    have B5 := hide (keep_below hb (by (repeat' (first | (with_reducible exact B4.out) | (with_reducible apply below_setRow) | (with_reducible apply Below.alloc) | omega | (simp; done) | (simp; omega)))) (by first | omega | (simp; done) | (simp; omega)) : Below w.heap.size w w5)
    have sB5 := B5.out.size
    clear hb tS4 tA4
    have lS5 := tS5.lt
    have lA5 := tA5.lt
    dsimp only
    go_wp2
    go_ret
    exact ⟨rfl, B5.out⟩
  obtain ⟨l, h, c, d, e1, e2, i1, i2, i3, i4, i5, z1, z2, lp, l1, l2⟩ := HR.out K8.out (by omega)
  have E1 := hide e1
  have E2 := hide e2
  have I1 := hide i1
  have I2 := hide i2
  have I3 := hide i3
  have I4 := hide i4
  have I5 := hide i5
  have z3 : (l % s 0 == 0) = true := by simpa using z1
  have z4 : (h % s 0 == 0) = true := by simpa using z2
  have Z1 := hide z1
  have Z2 := hide z2
  clear e1 e2 i1 i2 i3 i4 i5 z1 z2 HR
  go_enter Try.func8, Try.ntmps8
  go_wp2_with (first | ((with_reducible apply load_sym); exact rfl; exact rfl; exact rfl; focus ((repeat' (first | (with_reducible assumption) | ((with_reducible apply Sym.new'); simp; done) | (with_reducible apply Sym.setRow_other) | (with_reducible apply Sym.alloc) | (simp; done) | omega | (simp; omega))); done)) | first | first | ((with_reducible apply load_bnd); exact rfl; exact rfl; exact rfl; focus ((repeat' (first | (with_reducible assumption) | ((with_reducible apply Bnd.new'); simp; done) | (with_reducible apply Bnd.setRow) | (with_reducible apply Bnd.setRow_other) | (with_reducible apply Bnd.alloc) | (simp; done) | omega | (simp; omega))); done)) | ((with_reducible apply store_bnd); exact rfl; exact rfl; exact rfl; exact rfl; exact rfl; exact rfl; focus ((repeat' (first | (with_reducible assumption) | ((with_reducible apply Bnd.new'); simp; done) | (with_reducible apply Bnd.setRow) | (with_reducible apply Bnd.setRow_other) | (with_reducible apply Bnd.alloc) | (simp; done) | omega | (simp; omega))); done)) | ((with_reducible apply beq_step); exact rfl; exact rfl; exact rfl; exact rfl; simp only [Act.put, List.setIfInBounds_toArray, List.set_cons_zero, List.set_cons_succ]) | ((with_reducible apply bneq_step); exact rfl; exact rfl; exact rfl; exact rfl; simp only [Act.put, List.setIfInBounds_toArray, List.set_cons_zero, List.set_cons_succ]) | first | ((with_reducible apply gload_bnd); exact rfl; exact rfl; exact rfl; focus ((repeat' (first | (with_reducible assumption) | ((with_reducible apply Bnd.new'); simp; done) | (with_reducible apply Bnd.setRow) | (with_reducible apply Bnd.setRow_other) | (with_reducible apply Bnd.alloc) | (simp; done) | omega | (simp; omega))); done)) | ((with_reducible apply geq_bnd); exact rfl; exact rfl; exact rfl; exact rfl; simp only [Act.put, List.setIfInBounds_toArray, List.set_cons_zero, List.set_cons_succ]) | ((with_reducible apply gneq_bnd); exact rfl; exact rfl; exact rfl; exact rfl; simp only [Act.put, List.setIfInBounds_toArray, List.set_cons_zero, List.set_cons_succ]))
  (with_reducible refine (symbol_any s _ Hg.out Hk.out).mono ?_)
  rintro e w1 ⟨rfl, hb⟩
  have tS1 : Sym w1 w.heap.size s := Sym.below (by (repeat' (first | (with_reducible assumption) | ((with_reducible apply Sym.new'); simp; done) | (with_reducible apply Sym.setRow_other) | (with_reducible apply Sym.alloc) | (simp; done) | omega | (simp; omega)))) hb (by first | omega | (simp; done) | (simp; omega))
  have B1 := hide (keep_below hb (by (repeat' (first | (with_reducible exact B0.out) | (with_reducible apply below_setRow) | (with_reducible apply Below.alloc) | omega | (simp; done) | (simp; omega)))) (by first | omega | (simp; done) | (simp; omega)) : Below w.heap.size w w1)
  have sB1 := B1.out.size
  clear hb
  have lS1 := tS1.lt
  rw [HS.out]
  dsimp only
  have c0 := tS1.cell 0 rfl
  go_wp2_with (first | ((with_reducible apply load_sym); exact rfl; exact rfl; exact rfl; focus ((repeat' (first | (with_reducible assumption) | ((with_reducible apply Sym.new'); simp; done) | (with_reducible apply Sym.setRow_other) | (with_reducible apply Sym.alloc) | (simp; done) | omega | (simp; omega))); done)) | first | first | ((with_reducible apply load_bnd); exact rfl; exact rfl; exact rfl; focus ((repeat' (first | (with_reducible assumption) | ((with_reducible apply Bnd.new'); simp; done) | (with_reducible apply Bnd.setRow) | (with_reducible apply Bnd.setRow_other) | (with_reducible apply Bnd.alloc) | (simp; done) | omega | (simp; omega))); done)) | ((with_reducible apply store_bnd); exact rfl; exact rfl; exact rfl; exact rfl; exact rfl; exact rfl; focus ((repeat' (first | (with_reducible assumption) | ((with_reducible apply Bnd.new'); simp; done) | (with_reducible apply Bnd.setRow) | (with_reducible apply Bnd.setRow_other) | (with_reducible apply Bnd.alloc) | (simp; done) | omega | (simp; omega))); done)) | ((with_reducible apply beq_step); exact rfl; exact rfl; exact rfl; exact rfl; simp only [Act.put, List.setIfInBounds_toArray, List.set_cons_zero, List.set_cons_succ]) | ((with_reducible apply bneq_step); exact rfl; exact rfl; exact rfl; exact rfl; simp only [Act.put, List.setIfInBounds_toArray, List.set_cons_zero, List.set_cons_succ]) | first | ((with_reducible apply gload_bnd); exact rfl; exact rfl; exact rfl; focus ((repeat' (first | (with_reducible assumption) | ((with_reducible apply Bnd.new'); simp; done) | (with_reducible apply Bnd.setRow) | (with_reducible apply Bnd.setRow_other) | (with_reducible apply Bnd.alloc) | (simp; done) | omega | (simp; omega))); done)) | ((with_reducible apply geq_bnd); exact rfl; exact rfl; exact rfl; exact rfl; simp only [Act.put, List.setIfInBounds_toArray, List.set_cons_zero, List.set_cons_succ]) | ((with_reducible apply gneq_bnd); exact rfl; exact rfl; exact rfl; exact rfl; simp only [Act.put, List.setIfInBounds_toArray, List.set_cons_zero, List.set_cons_succ]))
  (with_reducible refine (static_any s first _ Hg.out).mono ?_)
  rintro e w2 ⟨rfl, hb⟩
  have tS2 : Sym w2 w.heap.size s := Sym.below (by (repeat' (first | (with_reducible assumption) | ((with_reducible apply Sym.new'); simp; done) | (with_reducible apply Sym.setRow_other) | (with_reducible apply Sym.alloc) | (simp; done) | omega | (simp; omega)))) hb (by first | omega | (simp; done) | (simp; omega))
  have B2 := hide (keep_below hb (by (repeat' (first | (with_reducible exact B1.out) | (with_reducible apply below_setRow) | (with_reducible apply Below.alloc) | omega | (simp; done) | (simp; omega)))) (by first | omega | (simp; done) | (simp; omega)) : Below w.heap.size w w2)
  have sB2 := B2.out.size
  clear hb c0 tS1
  have lS2 := tS2.lt
  rw [HA.out, optB_some]
  dsimp only
  go_wp2_with (first | ((with_reducible apply load_sym); exact rfl; exact rfl; exact rfl; focus ((repeat' (first | (with_reducible assumption) | ((with_reducible apply Sym.new'); simp; done) | (with_reducible apply Sym.setRow_other) | (with_reducible apply Sym.alloc) | (simp; done) | omega | (simp; omega))); done)) | first | first | ((with_reducible apply load_bnd); exact rfl; exact rfl; exact rfl; focus ((repeat' (first | (with_reducible assumption) | ((with_reducible apply Bnd.new'); simp; done) | (with_reducible apply Bnd.setRow) | (with_reducible apply Bnd.setRow_other) | (with_reducible apply Bnd.alloc) | (simp; done) | omega | (simp; omega))); done)) | ((with_reducible apply store_bnd); exact rfl; exact rfl; exact rfl; exact rfl; exact rfl; exact rfl; focus ((repeat' (first | (with_reducible assumption) | ((with_reducible apply Bnd.new'); simp; done) | (with_reducible apply Bnd.setRow) | (with_reducible apply Bnd.setRow_other) | (with_reducible apply Bnd.alloc) | (simp; done) | omega | (simp; omega))); done)) | ((with_reducible apply beq_step); exact rfl; exact rfl; exact rfl; exact rfl; simp only [Act.put, List.setIfInBounds_toArray, List.set_cons_zero, List.set_cons_succ]) | ((with_reducible apply bneq_step); exact rfl; exact rfl; exact rfl; exact rfl; simp only [Act.put, List.setIfInBounds_toArray, List.set_cons_zero, List.set_cons_succ]) | first | ((with_reducible apply gload_bnd); exact rfl; exact rfl; exact rfl; focus ((repeat' (first | (with_reducible assumption) | ((with_reducible apply Bnd.new'); simp; done) | (with_reducible apply Bnd.setRow) | (with_reducible apply Bnd.setRow_other) | (with_reducible apply Bnd.alloc) | (simp; done) | omega | (simp; omega))); done)) | ((with_reducible apply geq_bnd); exact rfl; exact rfl; exact rfl; exact rfl; simp only [Act.put, List.setIfInBounds_toArray, List.set_cons_zero, List.set_cons_succ]) | ((with_reducible apply gneq_bnd); exact rfl; exact rfl; exact rfl; exact rfl; simp only [Act.put, List.setIfInBounds_toArray, List.set_cons_zero, List.set_cons_succ]))
  (with_reducible refine (in_any lo hi first _).mono ?_)
  rintro e w3 ⟨rfl, hb⟩
  have tS3 : Sym w3 w.heap.size s := Sym.below (by (repeat' (first | (with_reducible assumption) | ((with_reducible apply Sym.new'); simp; done) | (with_reducible apply Sym.setRow_other) | (with_reducible apply Sym.alloc) | (simp; done) | omega | (simp; omega)))) hb (by first | omega | (simp; done) | (simp; omega))
  have tA3 : Bnd w3 w2.heap.size (.int .i64 lo) (.int .i64 hi) := Bnd.below (by (repeat' (first | (with_reducible assumption) | ((with_reducible apply Bnd.new'); simp; done) | (with_reducible apply Bnd.setRow) | (with_reducible apply Bnd.setRow_other) | (with_reducible apply Bnd.alloc) | (simp; done) | omega | (simp; omega)))) hb (by first | omega | (simp; done) | (simp; omega))
  have B3 := hide (keep_below hb (by (repeat' (first | (with_reducible exact B2.out) | (with_reducible apply below_setRow) | (with_reducible apply Below.alloc) | omega | (simp; done) | (simp; omega)))) (by first | omega | (simp; done) | (simp; omega)) : Below w.heap.size w w3)
  have sB3 := B3.out.size
  clear hb tS2
  have lS3 := tS3.lt
  have lA3 := tA3.lt
  rw [HI.out]
  dsimp only
  go_wp2_with (first | ((with_reducible apply load_sym); exact rfl; exact rfl; exact rfl; focus ((repeat' (first | (with_reducible assumption) | ((with_reducible apply Sym.new'); simp; done) | (with_reducible apply Sym.setRow_other) | (with_reducible apply Sym.alloc) | (simp; done) | omega | (simp; omega))); done)) | first | first | ((with_reducible apply load_bnd); exact rfl; exact rfl; exact rfl; focus ((repeat' (first | (with_reducible assumption) | ((with_reducible apply Bnd.new'); simp; done) | (with_reducible apply Bnd.setRow) | (with_reducible apply Bnd.setRow_other) | (with_reducible apply Bnd.alloc) | (simp; done) | omega | (simp; omega))); done)) | ((with_reducible apply store_bnd); exact rfl; exact rfl; exact rfl; exact rfl; exact rfl; exact rfl; focus ((repeat' (first | (with_reducible assumption) | ((with_reducible apply Bnd.new'); simp; done) | (with_reducible apply Bnd.setRow) | (with_reducible apply Bnd.setRow_other) | (with_reducible apply Bnd.alloc) | (simp; done) | omega | (simp; omega))); done)) | ((with_reducible apply beq_step); exact rfl; exact rfl; exact rfl; exact rfl; simp only [Act.put, List.setIfInBounds_toArray, List.set_cons_zero, List.set_cons_succ]) | ((with_reducible apply bneq_step); exact rfl; exact rfl; exact rfl; exact rfl; simp only [Act.put, List.setIfInBounds_toArray, List.set_cons_zero, List.set_cons_succ]) | first | ((with_reducible apply gload_bnd); exact rfl; exact rfl; exact rfl; focus ((repeat' (first | (with_reducible assumption) | ((with_reducible apply Bnd.new'); simp; done) | (with_reducible apply Bnd.setRow) | (with_reducible apply Bnd.setRow_other) | (with_reducible apply Bnd.alloc) | (simp; done) | omega | (simp; omega))); done)) | ((with_reducible apply geq_bnd); exact rfl; exact rfl; exact rfl; exact rfl; simp only [Act.put, List.setIfInBounds_toArray, List.set_cons_zero, List.set_cons_succ]) | ((with_reducible apply gneq_bnd); exact rfl; exact rfl; exact rfl; exact rfl; simp only [Act.put, List.setIfInBounds_toArray, List.set_cons_zero, List.set_cons_succ]))
  (with_reducible refine (in_any lo hi r _).mono ?_)
  rintro e w4 ⟨rfl, hb⟩
  have tS4 : Sym w4 w.heap.size s := Sym.below (by (repeat' (first | (with_reducible assumption) | ((with_reducible apply Sym.new'); simp; done) | (with_reducible apply Sym.setRow_other) | (with_reducible apply Sym.alloc) | (simp; done) | omega | (simp; omega)))) hb (by first | omega | (simp; done) | (simp; omega))
  have tA4 : Bnd w4 w2.heap.size (.int .i64 lo) (.int .i64 hi) := Bnd.below (by (repeat' (first | (with_reducible assumption) | ((with_reducible apply Bnd.new'); simp; done) | (with_reducible apply Bnd.setRow) | (with_reducible apply Bnd.setRow_other) | (with_reducible apply Bnd.alloc) | (simp; done) | omega | (simp; omega)))) hb (by first | omega | (simp; done) | (simp; omega))
  have B4 := hide (keep_below hb (by (repeat' (first | (with_reducible exact B3.out) | (with_reducible apply below_setRow) | (with_reducible apply Below.alloc) | omega | (simp; done) | (simp; omega)))) (by first | omega | (simp; done) | (simp; omega)) : Below w.heap.size w w4)
  have sB4 := B4.out.size
  clear hb tS3 tA3
  have lS4 := tS4.lt
  have lA4 := tA4.lt
  rw [K8.out]
  dsimp only
  go_wp2_with (first | ((with_reducible apply load_sym); exact rfl; exact rfl; exact rfl; focus ((repeat' (first | (with_reducible assumption) | ((with_reducible apply Sym.new'); simp; done) | (with_reducible apply Sym.setRow_other) | (with_reducible apply Sym.alloc) | (simp; done) | omega | (simp; omega))); done)) | first | first | ((with_reducible apply load_bnd); exact rfl; exact rfl; exact rfl; focus ((repeat' (first | (with_reducible assumption) | ((with_reducible apply Bnd.new'); simp; done) | (with_reducible apply Bnd.setRow) | (with_reducible apply Bnd.setRow_other) | (with_reducible apply Bnd.alloc) | (simp; done) | omega | (simp; omega))); done)) | ((with_reducible apply store_bnd); exact rfl; exact rfl; exact rfl; exact rfl; exact rfl; exact rfl; focus ((repeat' (first | (with_reducible assumption) | ((with_reducible apply Bnd.new'); simp; done) | (with_reducible apply Bnd.setRow) | (with_reducible apply Bnd.setRow_other) | (with_reducible apply Bnd.alloc) | (simp; done) | omega | (simp; omega))); done)) | ((with_reducible apply beq_step); exact rfl; exact rfl; exact rfl; exact rfl; simp only [Act.put, List.setIfInBounds_toArray, List.set_cons_zero, List.set_cons_succ]) | ((with_reducible apply bneq_step); exact rfl; exact rfl; exact rfl; exact rfl; simp only [Act.put, List.setIfInBounds_toArray, List.set_cons_zero, List.set_cons_succ]) | first | ((with_reducible apply gload_bnd); exact rfl; exact rfl; exact rfl; focus ((repeat' (first | (with_reducible assumption) | ((with_reducible apply Bnd.new'); simp; done) | (with_reducible apply Bnd.setRow) | (with_reducible apply Bnd.setRow_other) | (with_reducible apply Bnd.alloc) | (simp; done) | omega | (simp; omega))); done)) | ((with_reducible apply geq_bnd); exact rfl; exact rfl; exact rfl; exact rfl; simp only [Act.put, List.setIfInBounds_toArray, List.set_cons_zero, List.set_cons_succ]) | ((with_reducible apply gneq_bnd); exact rfl; exact rfl; exact rfl; exact rfl; simp only [Act.put, List.setIfInBounds_toArray, List.set_cons_zero, List.set_cons_succ]))
  (with_reducible refine (bandof_any s first r _ Hg.out).mono ?_)
  rintro e w5 ⟨rfl, hb⟩
  have tS5 : Sym w5 w.heap.size s := Sym.below (by (repeat' (first | (with_reducible assumption) | ((with_reducible apply Sym.new'); simp; done) | (with_reducible apply Sym.setRow_other) | (with_reducible apply Sym.alloc) | (simp; done) | omega | (simp; omega)))) hb (by first | omega | (simp; done) | (simp; omega))
  have tA5 : Bnd w5 w2.heap.size (.int .i64 lo) (.int .i64 hi) := Bnd.below (by (repeat' (first | (with_reducible assumption) | ((with_reducible apply Bnd.new'); simp; done) | (with_reducible apply Bnd.setRow) | (with_reducible apply Bnd.setRow_other) | (with_reducible apply Bnd.alloc) | (simp; done) | omega | (simp; omega)))) hb (by first | omega | (simp; done) | (simp; omega))
  have B5 := hide (keep_below hb (by (repeat' (first | (with_reducible exact B4.out) | (with_reducible apply below_setRow) | (with_reducible apply Below.alloc) | omega | (simp; done) | (simp; omega)))) (by first | omega | (simp; done) | (simp; omega)) : Below w.heap.size w w5)
  have sB5 := B5.out.size
  clear hb tS4 tA4
  have lS5 := tS5.lt
  have lA5 := tA5.lt
  rw [E1.out, optB_some]
  dsimp only
  go_wp2_with (first | ((with_reducible apply load_sym); exact rfl; exact rfl; exact rfl; focus ((repeat' (first | (with_reducible assumption) | ((with_reducible apply Sym.new'); simp; done) | (with_reducible apply Sym.setRow_other) | (with_reducible apply Sym.alloc) | (simp; done) | omega | (simp; omega))); done)) | first | first | ((with_reducible apply load_bnd); exact rfl; exact rfl; exact rfl; focus ((repeat' (first | (with_reducible assumption) | ((with_reducible apply Bnd.new'); simp; done) | (with_reducible apply Bnd.setRow) | (with_reducible apply Bnd.setRow_other) | (with_reducible apply Bnd.alloc) | (simp; done) | omega | (simp; omega))); done)) | ((with_reducible apply store_bnd); exact rfl; exact rfl; exact rfl; exact rfl; exact rfl; exact rfl; focus ((repeat' (first | (with_reducible assumption) | ((with_reducible apply Bnd.new'); simp; done) | (with_reducible apply Bnd.setRow) | (with_reducible apply Bnd.setRow_other) | (with_reducible apply Bnd.alloc) | (simp; done) | omega | (simp; omega))); done)) | ((with_reducible apply beq_step); exact rfl; exact rfl; exact rfl; exact rfl; simp only [Act.put, List.setIfInBounds_toArray, List.set_cons_zero, List.set_cons_succ]) | ((with_reducible apply bneq_step); exact rfl; exact rfl; exact rfl; exact rfl; simp only [Act.put, List.setIfInBounds_toArray, List.set_cons_zero, List.set_cons_succ]) | first | ((with_reducible apply gload_bnd); exact rfl; exact rfl; exact rfl; focus ((repeat' (first | (with_reducible assumption) | ((with_reducible apply Bnd.new'); simp; done) | (with_reducible apply Bnd.setRow) | (with_reducible apply Bnd.setRow_other) | (with_reducible apply Bnd.alloc) | (simp; done) | omega | (simp; omega))); done)) | ((with_reducible apply geq_bnd); exact rfl; exact rfl; exact rfl; exact rfl; simp only [Act.put, List.setIfInBounds_toArray, List.set_cons_zero, List.set_cons_succ]) | ((with_reducible apply gneq_bnd); exact rfl; exact rfl; exact rfl; exact rfl; simp only [Act.put, List.setIfInBounds_toArray, List.set_cons_zero, List.set_cons_succ]))
  (with_reducible refine (dynamic_any s r _ Hg.out).mono ?_)
  rintro e w6 ⟨rfl, hb⟩
  have tS6 : Sym w6 w.heap.size s := Sym.below (by (repeat' (first | (with_reducible assumption) | ((with_reducible apply Sym.new'); simp; done) | (with_reducible apply Sym.setRow_other) | (with_reducible apply Sym.alloc) | (simp; done) | omega | (simp; omega)))) hb (by first | omega | (simp; done) | (simp; omega))
  have tA6 : Bnd w6 w2.heap.size (.int .i64 lo) (.int .i64 hi) := Bnd.below (by (repeat' (first | (with_reducible assumption) | ((with_reducible apply Bnd.new'); simp; done) | (with_reducible apply Bnd.setRow) | (with_reducible apply Bnd.setRow_other) | (with_reducible apply Bnd.alloc) | (simp; done) | omega | (simp; omega)))) hb (by first | omega | (simp; done) | (simp; omega))
  have tB6 : Bnd w6 w5.heap.size (.int .i64 l) (.int .i64 h) := Bnd.below (by (repeat' (first | (with_reducible assumption) | ((with_reducible apply Bnd.new'); simp; done) | (with_reducible apply Bnd.setRow) | (with_reducible apply Bnd.setRow_other) | (with_reducible apply Bnd.alloc) | (simp; done) | omega | (simp; omega)))) hb (by first | omega | (simp; done) | (simp; omega))
  have B6 := hide (keep_below hb (by (repeat' (first | (with_reducible exact B5.out) | (with_reducible apply below_setRow) | (with_reducible apply Below.alloc) | omega | (simp; done) | (simp; omega)))) (by first | omega | (simp; done) | (simp; omega)) : Below w.heap.size w w6)
  have sB6 := B6.out.size
  clear hb tS5 tA5
  have lS6 := tS6.lt
  have lA6 := tA6.lt
  have lB6 := tB6.lt
  rw [E2.out, optB_some]
  dsimp only
  go_wp2_with (first | ((with_reducible apply load_sym); exact rfl; exact rfl; exact rfl; focus ((repeat' (first | (with_reducible assumption) | ((with_reducible apply Sym.new'); simp; done) | (with_reducible apply Sym.setRow_other) | (with_reducible apply Sym.alloc) | (simp; done) | omega | (simp; omega))); done)) | first | first | ((with_reducible apply load_bnd); exact rfl; exact rfl; exact rfl; focus ((repeat' (first | (with_reducible assumption) | ((with_reducible apply Bnd.new'); simp; done) | (with_reducible apply Bnd.setRow) | (with_reducible apply Bnd.setRow_other) | (with_reducible apply Bnd.alloc) | (simp; done) | omega | (simp; omega))); done)) | ((with_reducible apply store_bnd); exact rfl; exact rfl; exact rfl; exact rfl; exact rfl; exact rfl; focus ((repeat' (first | (with_reducible assumption) | ((with_reducible apply Bnd.new'); simp; done) | (with_reducible apply Bnd.setRow) | (with_reducible apply Bnd.setRow_other) | (with_reducible apply Bnd.alloc) | (simp; done) | omega | (simp; omega))); done)) | ((with_reducible apply beq_step); exact rfl; exact rfl; exact rfl; exact rfl; simp only [Act.put, List.setIfInBounds_toArray, List.set_cons_zero, List.set_cons_succ]) | ((with_reducible apply bneq_step); exact rfl; exact rfl; exact rfl; exact rfl; simp only [Act.put, List.setIfInBounds_toArray, List.set_cons_zero, List.set_cons_succ]) | first | ((with_reducible apply gload_bnd); exact rfl; exact rfl; exact rfl; focus ((repeat' (first | (with_reducible assumption) | ((with_reducible apply Bnd.new'); simp; done) | (with_reducible apply Bnd.setRow) | (with_reducible apply Bnd.setRow_other) | (with_reducible apply Bnd.alloc) | (simp; done) | omega | (simp; omega))); done)) | ((with_reducible apply geq_bnd); exact rfl; exact rfl; exact rfl; exact rfl; simp only [Act.put, List.setIfInBounds_toArray, List.set_cons_zero, List.set_cons_succ]) | ((with_reducible apply gneq_bnd); exact rfl; exact rfl; exact rfl; exact rfl; simp only [Act.put, List.setIfInBounds_toArray, List.set_cons_zero, List.set_cons_succ]))
  (with_reducible refine (in_any l h r _).mono ?_)
  rintro e w7 ⟨rfl, hb⟩
  have tS7 : Sym w7 w.heap.size s := Sym.below (by (repeat' (first | (with_reducible assumption) | ((with_reducible apply Sym.new'); simp; done) | (with_reducible apply Sym.setRow_other) | (with_reducible apply Sym.alloc) | (simp; done) | omega | (simp; omega)))) hb (by first | omega | (simp; done) | (simp; omega))
  have tA7 : Bnd w7 w2.heap.size (.int .i64 lo) (.int .i64 hi) := Bnd.below (by (repeat' (first | (with_reducible assumption) | ((with_reducible apply Bnd.new'); simp; done) | (with_reducible apply Bnd.setRow) | (with_reducible apply Bnd.setRow_other) | (with_reducible apply Bnd.alloc) | (simp; done) | omega | (simp; omega)))) hb (by first | omega | (simp; done) | (simp; omega))
  have tB7 : Bnd w7 w5.heap.size (.int .i64 l) (.int .i64 h) := Bnd.below (by (repeat' (first | (with_reducible assumption) | ((with_reducible apply Bnd.new'); simp; done) | (with_reducible apply Bnd.setRow) | (with_reducible apply Bnd.setRow_other) | (with_reducible apply Bnd.alloc) | (simp; done) | omega | (simp; omega)))) hb (by first | omega | (simp; done) | (simp; omega))
  have tC7 : Bnd w7 w6.heap.size (.int .i64 c) (.int .i64 d) := Bnd.below (by (repeat' (first | (with_reducible assumption) | ((with_reducible apply Bnd.new'); simp; done) | (with_reducible apply Bnd.setRow) | (with_reducible apply Bnd.setRow_other) | (with_reducible apply Bnd.alloc) | (simp; done) | omega | (simp; omega)))) hb (by first | omega | (simp; done) | (simp; omega))
  have B7 := hide (keep_below hb (by (repeat' (first | (with_reducible exact B6.out) | (with_reducible apply below_setRow) | (with_reducible apply Below.alloc) | omega | (simp; done) | (simp; omega)))) (by first | omega | (simp; done) | (simp; omega)) : Below w.heap.size w w7)
  have sB7 := B7.out.size
  clear hb tS6 tA6 tB6
  have lS7 := tS7.lt
  have lA7 := tA7.lt
  have lB7 := tB7.lt
  have lC7 := tC7.lt
  rw [I1.out]
  dsimp only
  have b0 := tB7.c0
  have b1 := tB7.c1
  go_wp2_with (first | ((with_reducible apply load_sym); exact rfl; exact rfl; exact rfl; focus ((repeat' (first | (with_reducible assumption) | ((with_reducible apply Sym.new'); simp; done) | (with_reducible apply Sym.setRow_other) | (with_reducible apply Sym.alloc) | (simp; done) | omega | (simp; omega))); done)) | first | first | ((with_reducible apply load_bnd); exact rfl; exact rfl; exact rfl; focus ((repeat' (first | (with_reducible assumption) | ((with_reducible apply Bnd.new'); simp; done) | (with_reducible apply Bnd.setRow) | (with_reducible apply Bnd.setRow_other) | (with_reducible apply Bnd.alloc) | (simp; done) | omega | (simp; omega))); done)) | ((with_reducible apply store_bnd); exact rfl; exact rfl; exact rfl; exact rfl; exact rfl; exact rfl; focus ((repeat' (first | (with_reducible assumption) | ((with_reducible apply Bnd.new'); simp; done) | (with_reducible apply Bnd.setRow) | (with_reducible apply Bnd.setRow_other) | (with_reducible apply Bnd.alloc) | (simp; done) | omega | (simp; omega))); done)) | ((with_reducible apply beq_step); exact rfl; exact rfl; exact rfl; exact rfl; simp only [Act.put, List.setIfInBounds_toArray, List.set_cons_zero, List.set_cons_succ]) | ((with_reducible apply bneq_step); exact rfl; exact rfl; exact rfl; exact rfl; simp only [Act.put, List.setIfInBounds_toArray, List.set_cons_zero, List.set_cons_succ]) | first | ((with_reducible apply gload_bnd); exact rfl; exact rfl; exact rfl; focus ((repeat' (first | (with_reducible assumption) | ((with_reducible apply Bnd.new'); simp; done) | (with_reducible apply Bnd.setRow) | (with_reducible apply Bnd.setRow_other) | (with_reducible apply Bnd.alloc) | (simp; done) | omega | (simp; omega))); done)) | ((with_reducible apply geq_bnd); exact rfl; exact rfl; exact rfl; exact rfl; simp only [Act.put, List.setIfInBounds_toArray, List.set_cons_zero, List.set_cons_succ]) | ((with_reducible apply gneq_bnd); exact rfl; exact rfl; exact rfl; exact rfl; simp only [Act.put, List.setIfInBounds_toArray, List.set_cons_zero, List.set_cons_succ]))
  (with_reducible refine (in_any lo hi l _).mono ?_)
  rintro e w8 ⟨rfl, hb⟩
  have tS8 : Sym w8 w.heap.size s := Sym.below (by (repeat' (first | (with_reducible assumption) | ((with_reducible apply Sym.new'); simp; done) | (with_reducible apply Sym.setRow_other) | (with_reducible apply Sym.alloc) | (simp; done) | omega | (simp; omega)))) hb (by first | omega | (simp; done) | (simp; omega))
  have tA8 : Bnd w8 w2.heap.size (.int .i64 lo) (.int .i64 hi) := Bnd.below (by (repeat' (first | (with_reducible assumption) | ((with_reducible apply Bnd.new'); simp; done) | (with_reducible apply Bnd.setRow) | (with_reducible apply Bnd.setRow_other) | (with_reducible apply Bnd.alloc) | (simp; done) | omega | (simp; omega)))) hb (by first | omega | (simp; done) | (simp; omega))
  have tB8 : Bnd w8 w5.heap.size (.int .i64 l) (.int .i64 h) := Bnd.below (by (repeat' (first | (with_reducible assumption) | ((with_reducible apply Bnd.new'); simp; done) | (with_reducible apply Bnd.setRow) | (with_reducible apply Bnd.setRow_other) | (with_reducible apply Bnd.alloc) | (simp; done) | omega | (simp; omega)))) hb (by first | omega | (simp; done) | (simp; omega))
  have tC8 : Bnd w8 w6.heap.size (.int .i64 c) (.int .i64 d) := Bnd.below (by (repeat' (first | (with_reducible assumption) | ((with_reducible apply Bnd.new'); simp; done) | (with_reducible apply Bnd.setRow) | (with_reducible apply Bnd.setRow_other) | (with_reducible apply Bnd.alloc) | (simp; done) | omega | (simp; omega)))) hb (by first | omega | (simp; done) | (simp; omega))
  have B8 := hide (keep_below hb (by (repeat' (first | (with_reducible exact B7.out) | (with_reducible apply below_setRow) | (with_reducible apply Below.alloc) | omega | (simp; done) | (simp; omega)))) (by first | omega | (simp; done) | (simp; omega)) : Below w.heap.size w w8)
  have sB8 := B8.out.size
  clear hb b0 b1 tS7 tA7 tB7 tC7
  have lS8 := tS8.lt
  have lA8 := tA8.lt
  have lB8 := tB8.lt
  have lC8 := tC8.lt
  rw [I2.out]
  dsimp only
  have b0 := tB8.c0
  have b1 := tB8.c1
  go_wp2_with (first | ((with_reducible apply load_sym); exact rfl; exact rfl; exact rfl; focus ((repeat' (first | (with_reducible assumption) | ((with_reducible apply Sym.new'); simp; done) | (with_reducible apply Sym.setRow_other) | (with_reducible apply Sym.alloc) | (simp; done) | omega | (simp; omega))); done)) | first | first | ((with_reducible apply load_bnd); exact rfl; exact rfl; exact rfl; focus ((repeat' (first | (with_reducible assumption) | ((with_reducible apply Bnd.new'); simp; done) | (with_reducible apply Bnd.setRow) | (with_reducible apply Bnd.setRow_other) | (with_reducible apply Bnd.alloc) | (simp; done) | omega | (simp; omega))); done)) | ((with_reducible apply store_bnd); exact rfl; exact rfl; exact rfl; exact rfl; exact rfl; exact rfl; focus ((repeat' (first | (with_reducible assumption) | ((with_reducible apply Bnd.new'); simp; done) | (with_reducible apply Bnd.setRow) | (with_reducible apply Bnd.setRow_other) | (with_reducible apply Bnd.alloc) | (simp; done) | omega | (simp; omega))); done)) | ((with_reducible apply beq_step); exact rfl; exact rfl; exact rfl; exact rfl; simp only [Act.put, List.setIfInBounds_toArray, List.set_cons_zero, List.set_cons_succ]) | ((with_reducible apply bneq_step); exact rfl; exact rfl; exact rfl; exact rfl; simp only [Act.put, List.setIfInBounds_toArray, List.set_cons_zero, List.set_cons_succ]) | first | ((with_reducible apply gload_bnd); exact rfl; exact rfl; exact rfl; focus ((repeat' (first | (with_reducible assumption) | ((with_reducible apply Bnd.new'); simp; done) | (with_reducible apply Bnd.setRow) | (with_reducible apply Bnd.setRow_other) | (with_reducible apply Bnd.alloc) | (simp; done) | omega | (simp; omega))); done)) | ((with_reducible apply geq_bnd); exact rfl; exact rfl; exact rfl; exact rfl; simp only [Act.put, List.setIfInBounds_toArray, List.set_cons_zero, List.set_cons_succ]) | ((with_reducible apply gneq_bnd); exact rfl; exact rfl; exact rfl; exact rfl; simp only [Act.put, List.setIfInBounds_toArray, List.set_cons_zero, List.set_cons_succ]))
  (with_reducible refine (in_any lo hi h _).mono ?_)
  rintro e w9 ⟨rfl, hb⟩
  have tS9 : Sym w9 w.heap.size s := Sym.below (by (repeat' (first | (with_reducible assumption) | ((with_reducible apply Sym.new'); simp; done) | (with_reducible apply Sym.setRow_other) | (with_reducible apply Sym.alloc) | (simp; done) | omega | (simp; omega)))) hb (by first | omega | (simp; done) | (simp; omega))
  have tA9 : Bnd w9 w2.heap.size (.int .i64 lo) (.int .i64 hi) := Bnd.below (by (repeat' (first | (with_reducible assumption) | ((with_reducible apply Bnd.new'); simp; done) | (with_reducible apply Bnd.setRow) | (with_reducible apply Bnd.setRow_other) | (with_reducible apply Bnd.alloc) | (simp; done) | omega | (simp; omega)))) hb (by first | omega | (simp; done) | (simp; omega))
  have tB9 : Bnd w9 w5.heap.size (.int .i64 l) (.int .i64 h) := Bnd.below (by (repeat' (first | (with_reducible assumption) | ((with_reducible apply Bnd.new'); simp; done) | (with_reducible apply Bnd.setRow) | (with_reducible apply Bnd.setRow_other) | (with_reducible apply Bnd.alloc) | (simp; done) | omega | (simp; omega)))) hb (by first | omega | (simp; done) | (simp; omega))
  have tC9 : Bnd w9 w6.heap.size (.int .i64 c) (.int .i64 d) := Bnd.below (by (repeat' (first | (with_reducible assumption) | ((with_reducible apply Bnd.new'); simp; done) | (with_reducible apply Bnd.setRow) | (with_reducible apply Bnd.setRow_other) | (with_reducible apply Bnd.alloc) | (simp; done) | omega | (simp; omega)))) hb (by first | omega | (simp; done) | (simp; omega))
  have B9 := hide (keep_below hb (by (repeat' (first | (with_reducible exact B8.out) | (with_reducible apply below_setRow) | (with_reducible apply Below.alloc) | omega | (simp; done) | (simp; omega)))) (by first | omega | (simp; done) | (simp; omega)) : Below w.heap.size w w9)
  have sB9 := B9.out.size
  clear hb b0 b1 tS8 tA8 tB8 tC8
  have lS9 := tS9.lt
  have lA9 := tA9.lt
  have lB9 := tB9.lt
  have lC9 := tC9.lt
  rw [I3.out]
  dsimp only
  have b0 := tB9.c0
  have b1 := tB9.c1
  go_wp2_with (first | ((with_reducible apply load_sym); exact rfl; exact rfl; exact rfl; focus ((repeat' (first | (with_reducible assumption) | ((with_reducible apply Sym.new'); simp; done) | (with_reducible apply Sym.setRow_other) | (with_reducible apply Sym.alloc) | (simp; done) | omega | (simp; omega))); done)) | first | first | ((with_reducible apply load_bnd); exact rfl; exact rfl; exact rfl; focus ((repeat' (first | (with_reducible assumption) | ((with_reducible apply Bnd.new'); simp; done) | (with_reducible apply Bnd.setRow) | (with_reducible apply Bnd.setRow_other) | (with_reducible apply Bnd.alloc) | (simp; done) | omega | (simp; omega))); done)) | ((with_reducible apply store_bnd); exact rfl; exact rfl; exact rfl; exact rfl; exact rfl; exact rfl; focus ((repeat' (first | (with_reducible assumption) | ((with_reducible apply Bnd.new'); simp; done) | (with_reducible apply Bnd.setRow) | (with_reducible apply Bnd.setRow_other) | (with_reducible apply Bnd.alloc) | (simp; done) | omega | (simp; omega))); done)) | ((with_reducible apply beq_step); exact rfl; exact rfl; exact rfl; exact rfl; simp only [Act.put, List.setIfInBounds_toArray, List.set_cons_zero, List.set_cons_succ]) | ((with_reducible apply bneq_step); exact rfl; exact rfl; exact rfl; exact rfl; simp only [Act.put, List.setIfInBounds_toArray, List.set_cons_zero, List.set_cons_succ]) | first | ((with_reducible apply gload_bnd); exact rfl; exact rfl; exact rfl; focus ((repeat' (first | (with_reducible assumption) | ((with_reducible apply Bnd.new'); simp; done) | (with_reducible apply Bnd.setRow) | (with_reducible apply Bnd.setRow_other) | (with_reducible apply Bnd.alloc) | (simp; done) | omega | (simp; omega))); done)) | ((with_reducible apply geq_bnd); exact rfl; exact rfl; exact rfl; exact rfl; simp only [Act.put, List.setIfInBounds_toArray, List.set_cons_zero, List.set_cons_succ]) | ((with_reducible apply gneq_bnd); exact rfl; exact rfl; exact rfl; exact rfl; simp only [Act.put, List.setIfInBounds_toArray, List.set_cons_zero, List.set_cons_succ]))
  (with_reducible refine (in_any c d l _).mono ?_)
  rintro e w10 ⟨rfl, hb⟩
  have tS10 : Sym w10 w.heap.size s := Sym.below (by (repeat' (first | (with_reducible assumption) | ((with_reducible apply Sym.new'); simp; done) | (with_reducible apply Sym.setRow_other) | (with_reducible apply Sym.alloc) | (simp; done) | omega | (simp; omega)))) hb (by first | omega | (simp; done) | (simp; omega))
  have tA10 : Bnd w10 w2.heap.size (.int .i64 lo) (.int .i64 hi) := Bnd.below (by (repeat' (first | (with_reducible assumption) | ((with_reducible apply Bnd.new'); simp; done) | (with_reducible apply Bnd.setRow) | (with_reducible apply Bnd.setRow_other) | (with_reducible apply Bnd.alloc) | (simp; done) | omega | (simp; omega)))) hb (by first | omega | (simp; done) | (simp; omega))
  have tB10 : Bnd w10 w5.heap.size (.int .i64 l) (.int .i64 h) := Bnd.below (by (repeat' (first | (with_reducible assumption) | ((with_reducible apply Bnd.new'); simp; done) | (with_reducible apply Bnd.setRow) | (with_reducible apply Bnd.setRow_other) | (with_reducible apply Bnd.alloc) | (simp; done) | omega | (simp; omega)))) hb (by first | omega | (simp; done) | (simp; omega))
  have tC10 : Bnd w10 w6.heap.size (.int .i64 c) (.int .i64 d) := Bnd.below (by (repeat' (first | (with_reducible assumption) | ((with_reducible apply Bnd.new'); simp; done) | (with_reducible apply Bnd.setRow) | (with_reducible apply Bnd.setRow_other) | (with_reducible apply Bnd.alloc) | (simp; done) | omega | (simp; omega)))) hb (by first | omega | (simp; done) | (simp; omega))
  have B10 := hide (keep_below hb (by (repeat' (first | (with_reducible exact B9.out) | (with_reducible apply below_setRow) | (with_reducible apply Below.alloc) | omega | (simp; done) | (simp; omega)))) (by first | omega | (simp; done) | (simp; omega)) : Below w.heap.size w w10)
  have sB10 := B10.out.size
  clear hb b0 b1 tS9 tA9 tB9 tC9
  have lS10 := tS10.lt
  have lA10 := tA10.lt
  have lB10 := tB10.lt
  have lC10 := tC10.lt
  rw [I4.out]
  dsimp only
  have b0 := tB10.c0
  have b1 := tB10.c1
  go_wp2_with (first | ((with_reducible apply load_sym); exact rfl; exact rfl; exact rfl; focus ((repeat' (first | (with_reducible assumption) | ((with_reducible apply Sym.new'); simp; done) | (with_reducible apply Sym.setRow_other) | (with_reducible apply Sym.alloc) | (simp; done) | omega | (simp; omega))); done)) | first | first | ((with_reducible apply load_bnd); exact rfl; exact rfl; exact rfl; focus ((repeat' (first | (with_reducible assumption) | ((with_reducible apply Bnd.new'); simp; done) | (with_reducible apply Bnd.setRow) | (with_reducible apply Bnd.setRow_other) | (with_reducible apply Bnd.alloc) | (simp; done) | omega | (simp; omega))); done)) | ((with_reducible apply store_bnd); exact rfl; exact rfl; exact rfl; exact rfl; exact rfl; exact rfl; focus ((repeat' (first | (with_reducible assumption) | ((with_reducible apply Bnd.new'); simp; done) | (with_reducible apply Bnd.setRow) | (with_reducible apply Bnd.setRow_other) | (with_reducible apply Bnd.alloc) | (simp; done) | omega | (simp; omega))); done)) | ((with_reducible apply beq_step); exact rfl; exact rfl; exact rfl; exact rfl; simp only [Act.put, List.setIfInBounds_toArray, List.set_cons_zero, List.set_cons_succ]) | ((with_reducible apply bneq_step); exact rfl; exact rfl; exact rfl; exact rfl; simp only [Act.put, List.setIfInBounds_toArray, List.set_cons_zero, List.set_cons_succ]) | first | ((with_reducible apply gload_bnd); exact rfl; exact rfl; exact rfl; focus ((repeat' (first | (with_reducible assumption) | ((with_reducible apply Bnd.new'); simp; done) | (with_reducible apply Bnd.setRow) | (with_reducible apply Bnd.setRow_other) | (with_reducible apply Bnd.alloc) | (simp; done) | omega | (simp; omega))); done)) | ((with_reducible apply geq_bnd); exact rfl; exact rfl; exact rfl; exact rfl; simp only [Act.put, List.setIfInBounds_toArray, List.set_cons_zero, List.set_cons_succ]) | ((with_reducible apply gneq_bnd); exact rfl; exact rfl; exact rfl; exact rfl; simp only [Act.put, List.setIfInBounds_toArray, List.set_cons_zero, List.set_cons_succ]))
  (with_reducible refine (in_any c d h _).mono ?_)
  rintro e w11 ⟨rfl, hb⟩
  have tS11 : Sym w11 w.heap.size s := Sym.below (by (repeat' (first | (with_reducible assumption) | ((with_reducible apply Sym.new'); simp; done) | (with_reducible apply Sym.setRow_other) | (with_reducible apply Sym.alloc) | (simp; done) | omega | (simp; omega)))) hb (by first | omega | (simp; done) | (simp; omega))
  have tA11 : Bnd w11 w2.heap.size (.int .i64 lo) (.int .i64 hi) := Bnd.below (by (repeat' (first | (with_reducible assumption) | ((with_reducible apply Bnd.new'); simp; done) | (with_reducible apply Bnd.setRow) | (with_reducible apply Bnd.setRow_other) | (with_reducible apply Bnd.alloc) | (simp; done) | omega | (simp; omega)))) hb (by first | omega | (simp; done) | (simp; omega))
  have tB11 : Bnd w11 w5.heap.size (.int .i64 l) (.int .i64 h) := Bnd.below (by (repeat' (first | (with_reducible assumption) | ((with_reducible apply Bnd.new'); simp; done) | (with_reducible apply Bnd.setRow) | (with_reducible apply Bnd.setRow_other) | (with_reducible apply Bnd.alloc) | (simp; done) | omega | (simp; omega)))) hb (by first | omega | (simp; done) | (simp; omega))
  have tC11 : Bnd w11 w6.heap.size (.int .i64 c) (.int .i64 d) := Bnd.below (by (repeat' (first | (with_reducible assumption) | ((with_reducible apply Bnd.new'); simp; done) | (with_reducible apply Bnd.setRow) | (with_reducible apply Bnd.setRow_other) | (with_reducible apply Bnd.alloc) | (simp; done) | omega | (simp; omega)))) hb (by first | omega | (simp; done) | (simp; omega))
  have B11 := hide (keep_below hb (by (repeat' (first | (with_reducible exact B10.out) | (with_reducible apply below_setRow) | (with_reducible apply Below.alloc) | omega | (simp; done) | (simp; omega)))) (by first | omega | (simp; done) | (simp; omega)) : Below w.heap.size w w11)
  have sB11 := B11.out.size
  clear hb b0 b1 tS10 tA10 tB10 tC10
  have lS11 := tS11.lt
  have lA11 := tA11.lt
  have lB11 := tB11.lt
  have lC11 := tC11.lt
  rw [I5.out]
  dsimp only
  have b0 := tB11.c0
  have b1 := tB11.c1
  have c0 := tS11.cell 0 rfl
  go_wp2_with (first | ((with_reducible apply load_sym); exact rfl; exact rfl; exact rfl; focus ((repeat' (first | (with_reducible assumption) | ((with_reducible apply Sym.new'); simp; done) | (with_reducible apply Sym.setRow_other) | (with_reducible apply Sym.alloc) | (simp; done) | omega | (simp; omega))); done)) | first | first | ((with_reducible apply load_bnd); exact rfl; exact rfl; exact rfl; focus ((repeat' (first | (with_reducible assumption) | ((with_reducible apply Bnd.new'); simp; done) | (with_reducible apply Bnd.setRow) | (with_reducible apply Bnd.setRow_other) | (with_reducible apply Bnd.alloc) | (simp; done) | omega | (simp; omega))); done)) | ((with_reducible apply store_bnd); exact rfl; exact rfl; exact rfl; exact rfl; exact rfl; exact rfl; focus ((repeat' (first | (with_reducible assumption) | ((with_reducible apply Bnd.new'); simp; done) | (with_reducible apply Bnd.setRow) | (with_reducible apply Bnd.setRow_other) | (with_reducible apply Bnd.alloc) | (simp; done) | omega | (simp; omega))); done)) | ((with_reducible apply beq_step); exact rfl; exact rfl; exact rfl; exact rfl; simp only [Act.put, List.setIfInBounds_toArray, List.set_cons_zero, List.set_cons_succ]) | ((with_reducible apply bneq_step); exact rfl; exact rfl; exact rfl; exact rfl; simp only [Act.put, List.setIfInBounds_toArray, List.set_cons_zero, List.set_cons_succ]) | first | ((with_reducible apply gload_bnd); exact rfl; exact rfl; exact rfl; focus ((repeat' (first | (with_reducible assumption) | ((with_reducible apply Bnd.new'); simp; done) | (with_reducible apply Bnd.setRow) | (with_reducible apply Bnd.setRow_other) | (with_reducible apply Bnd.alloc) | (simp; done) | omega | (simp; omega))); done)) | ((with_reducible apply geq_bnd); exact rfl; exact rfl; exact rfl; exact rfl; simp only [Act.put, List.setIfInBounds_toArray, List.set_cons_zero, List.set_cons_succ]) | ((with_reducible apply gneq_bnd); exact rfl; exact rfl; exact rfl; exact rfl; simp only [Act.put, List.setIfInBounds_toArray, List.set_cons_zero, List.set_cons_succ]))
  (with_reducible refine (alive20_any _).mono ?_)
  rintro e w12 ⟨rfl, hb⟩
  have tS12 : Sym w12 w.heap.size s := Sym.below (by (repeat' (first | (with_reducible assumption) | ((with_reducible apply Sym.new'); simp; done) | (with_reducible apply Sym.setRow_other) | (with_reducible apply Sym.alloc) | (simp; done) | omega | (simp; omega)))) hb (by first | omega | (simp; done) | (simp; omega))
  have tA12 : Bnd w12 w2.heap.size (.int .i64 lo) (.int .i64 hi) := Bnd.below (by (repeat' (first | (with_reducible assumption) | ((with_reducible apply Bnd.new'); simp; done) | (with_reducible apply Bnd.setRow) | (with_reducible apply Bnd.setRow_other) | (with_reducible apply Bnd.alloc) | (simp; done) | omega | (simp; omega)))) hb (by first | omega | (simp; done) | (simp; omega))
  have tB12 : Bnd w12 w5.heap.size (.int .i64 l) (.int .i64 h) := Bnd.below (by (repeat' (first | (with_reducible assumption) | ((with_reducible apply Bnd.new'); simp; done) | (with_reducible apply Bnd.setRow) | (with_reducible apply Bnd.setRow_other) | (with_reducible apply Bnd.alloc) | (simp; done) | omega | (simp; omega)))) hb (by first | omega | (simp; done) | (simp; omega))
  have tC12 : Bnd w12 w6.heap.size (.int .i64 c) (.int .i64 d) := Bnd.below (by (repeat' (first | (with_reducible assumption) | ((with_reducible apply Bnd.new'); simp; done) | (with_reducible apply Bnd.setRow) | (with_reducible apply Bnd.setRow_other) | (with_reducible apply Bnd.alloc) | (simp; done) | omega | (simp; omega)))) hb (by first | omega | (simp; done) | (simp; omega))
  have B12 := hide (keep_below hb (by (repeat' (first | (with_reducible exact B11.out) | (with_reducible apply below_setRow) | (with_reducible apply Below.alloc) | omega | (simp; done) | (simp; omega)))) (by first | omega | (simp; done) | (simp; omega)) : Below w.heap.size w w12)
  have sB12 := B12.out.size
  clear hb b0 b1 c0 tS11 tA11 tB11 tC11
  have lS12 := tS12.lt
  have lA12 := tA12.lt
  have lB12 := tB12.lt
  have lC12 := tC12.lt
  dsimp only
  go_wp2
  go_ret
  exact ⟨rfl, B12.out⟩
end Go.Proofs.Ytadilccdipcmnaa
