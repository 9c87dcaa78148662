/- Checked whole numbers: what the program's and the reference's Add, Up, Lower and Upper come to. Arguments: any int64 (bounds in so many parts: any int). -/
import Derived.Test.YtadilccdipcmnaaFixB
namespace Go.Proofs.Ytadilccdipcmnaa
open Go Go.RowKit

/-! Signs by bits -/
theorem toNat_ofInt {x : Int} (h : okI x) : ((BitVec.ofInt 64 x).toNat : Int) = if x < 0 then x + 18446744073709551616 else x := by
  unfold okI at h
  rw [BitVec.toNat_ofInt]
  split <;> omega
theorem msb_ofInt {x : Int} (h : okI x) : (BitVec.ofInt 64 x).msb = decide (x < 0) := by
  have h1 := toNat_ofInt h
  unfold okI at h
  rw [BitVec.msb_eq_decide]
  by_cases c : x < 0
  · rw [if_pos c] at h1
    rw [decide_eq_true c]
    exact decide_eq_true (by omega)
  · rw [if_neg c] at h1
    rw [decide_eq_false c]
    exact decide_eq_false (by omega)
theorem wrap_msb (b : BitVec 64) : okI (IntKind.i64.wrap (b.toNat : Int)) ∧ (IntKind.i64.wrap (b.toNat : Int) < 0 ↔ b.msb = true) := by
  have h := b.isLt
  rw [IntKind.wrap_i64, BitVec.msb_eq_decide, decide_eq_true_iff]
  unfold okI
  omega
theorem xor_sign {x y : Int} (hx : okI x) (hy : okI y) : okI (bits .xor .i64 x y) ∧ (bits .xor .i64 x y < 0 ↔ ¬ (x < 0 ↔ y < 0)) := by
  have h := wrap_msb (BitVec.ofInt 64 x ^^^ BitVec.ofInt 64 y)
  rw [BitVec.msb_xor, msb_ofInt hx, msb_ofInt hy] at h
  refine ⟨h.1, h.2.trans ?_⟩
  by_cases c : x < 0 <;> by_cases d : y < 0 <;> simp [c, d]
theorem and_sign {x y : Int} (hx : okI x) (hy : okI y) : bits .and .i64 x y < 0 ↔ x < 0 ∧ y < 0 := by
  have h := wrap_msb (BitVec.ofInt 64 x &&& BitVec.ofInt 64 y)
  rw [BitVec.msb_and, msb_ofInt hx, msb_ofInt hy] at h
  refine h.2.trans ?_
  by_cases c : x < 0 <;> by_cases d : y < 0 <;> simp [c, d]
theorem wrap64_ok (x : Int) : okI (wrap64 x) := by
  unfold wrap64 okI
  omega
theorem add_over {a b : Int} (ha : okI a) (hb : okI b) : bits .and .i64 (bits .xor .i64 a (wrap64 (a + b))) (bits .xor .i64 b (wrap64 (a + b))) < 0 ↔ ¬ okI (a + b) := by
  have hs := wrap64_ok (a + b)
  have x1 := xor_sign ha hs
  have x2 := xor_sign hb hs
  rw [and_sign x1.1 x2.1, x1.2, x2.2]
  unfold wrap64 at *
  unfold okI at *
  omega

set_option maxRecDepth 100000 in
set_option maxHeartbeats 1000000 in
theorem fixadd_any (a b : Int) (w : World) (ha : okI a) (hb : okI b) :
    Calls Try.prog 64 #[.int .i64 a, .int .i64 b] w fun e w' => e = .returned (opt (addF a b)) ∧ w' = w := by
  have H := add_over ha hb
  unfold addF
  by_cases h : okI (a + b)
  · rw [if_pos h]
    have h1 := hide h
    have hn : ¬ bits .and .i64 (bits .xor .i64 a (wrap64 (a + b))) (bits .xor .i64 b (wrap64 (a + b))) < 0 := fun c => H.1 c h
    clear H h
    go_enter Try.func64, Try.ntmps64
    go_wp2
    go_ret2
    exact ⟨by rw [opt_some]; exact congrArg (fun v => Ending.returned (.tuple #[.int .i64 v, .bool true])) (wrap64_id h1.out), rfl⟩
  · rw [if_neg h]
    have hn := H.2 h
    clear H h
    go_enter Try.func64, Try.ntmps64
    go_wp2
    go_ret2
    exact ⟨rfl, rfl⟩

/-! The reference's sizes -/
set_option maxRecDepth 100000 in
set_option maxHeartbeats 1000000 in
theorem refsize_any (a : Int) (w : World) (ha : okI a) :
    Calls Try.prog 122 #[.int .i64 a] w fun e w' => e = .returned (.int .u64 a.natAbs) ∧ w' = w := by
  unfold okI at ha
  by_cases h : a < 0
  · go_enter Try.func122, Try.ntmps122
    go_wp2
    go_ret
    exact ⟨ret_int (by omega), rfl⟩
  · go_enter Try.func122, Try.ntmps122
    go_wp2
    go_ret
    exact ⟨ret_int (by omega), rfl⟩
set_option maxRecDepth 100000 in
set_option maxHeartbeats 1000000 in
theorem sum_any (a b : Int) (w : World) (ha : 0 ≤ a) (hb : 0 ≤ b) (ha2 : a < M64) (hb2 : b < M64) :
    Calls Try.prog 121 #[.int .u64 a, .int .u64 b] w fun e w' => e = .returned (.agg (bf (bitF (a + b)))) ∧ Below w.heap.size w w' := by
  have MM : M64 < M128 := by decide
  have hE := hide (Int.emod_eq_of_lt (show 0 ≤ a + b by omega) (show a + b < M128 by rw [M64_eq] at *; rw [M128_eq]; omega))
  go_enter Try.func121, Try.ntmps121
  go_wp2_with (fail)
  (with_reducible refine (of_any 0 a _ (by decide) ha (by decide) ha2).mono ?_)
  rintro e w1 ⟨rfl, hb1⟩
  have rZ : Row w1 w.heap.size (fun _ => false) := Row.below (by (repeat' (first | (with_reducible assumption) | ((with_reducible apply Row.zero'); simp; done) | ((with_reducible apply Row.new'); simp; done) | (with_reducible apply Row.setRow) | (with_reducible apply Row.setRow_other) | (with_reducible apply Row.alloc) | (with_reducible apply Row.drew) | (simp; done) | omega | (simp; omega)))) hb1 (by simp <;> omega)
  have B1 := hide (keep_below hb1 (by (repeat' (first | (with_reducible exact Below.refl _ _) | (with_reducible apply below_setRow) | (with_reducible apply Below.alloc) | (simp; done) | omega | (simp; omega)))) (by simp <;> omega) : Below w.heap.size w w1)
  clear hb1
  dsimp only
  go_wp2_with (fail)
  (with_reducible refine (of_any 0 b _ (by decide) hb (by decide) hb2).mono ?_)
  rintro e w2 ⟨rfl, hb2'⟩
  have rZ2 := rZ.below hb2' rZ.lt
  have B2 := hide (B1.out.trans (hb2'.mono B1.out.size))
  clear hb2' B1 rZ
  dsimp only
  rw [show 0 * M64 + a = a by omega, show 0 * M64 + b = b by omega]
  go_wp2_with (fail)
  (with_reducible refine (add_any a b _ ha (by omega) hb (by omega)).mono ?_)
  rintro e w3 ⟨rfl, hb3⟩
  have rZ := rZ2.below hb3 rZ2.lt
  have B3 := hide (B2.out.trans (hb3.mono B2.out.size))
  clear hb3 B2 rZ2
  dsimp only
  rw [hE.out]
  have l3 := rZ.lt
  go_wp2_with (first | ((with_reducible apply load_row); exact rfl; exact rfl; exact rfl; focus ((repeat' (first | (with_reducible assumption) | ((with_reducible apply Row.zero'); simp; done) | ((with_reducible apply Row.new'); simp; done) | (with_reducible apply Row.setRow) | (with_reducible apply Row.setRow_other) | (with_reducible apply Row.alloc) | (with_reducible apply Row.drew) | (simp; done) | omega | (simp; omega))); done)) | ((with_reducible apply store_row); exact rfl; exact rfl; exact rfl; exact rfl; focus ((repeat' (first | (with_reducible assumption) | ((with_reducible apply Row.zero'); simp; done) | ((with_reducible apply Row.new'); simp; done) | (with_reducible apply Row.setRow) | (with_reducible apply Row.setRow_other) | (with_reducible apply Row.alloc) | (with_reducible apply Row.drew) | (simp; done) | omega | (simp; omega))); done)))
  exact bodyPost_ret (results_row rfl _ _ rfl (by (repeat' (first | (with_reducible assumption) | ((with_reducible apply Row.zero'); simp; done) | ((with_reducible apply Row.new'); simp; done) | (with_reducible apply Row.setRow) | (with_reducible apply Row.setRow_other) | (with_reducible apply Row.alloc) | (with_reducible apply Row.drew) | (simp; done) | omega | (simp; omega))))) rfl ⟨rfl, below_setRow (below_setRow (B3.out.alloc B3.out.size _) B3.out.size _) (Nat.le_refl _) _⟩

set_option maxRecDepth 100000 in
set_option maxHeartbeats 1000000 in
theorem signed_neg (n : Int) (w : World) (h0 : 0 ≤ n) :
    Calls Try.prog 115 #[.int .u64 n, .bool true] w fun e w' => e = .returned (opt (if n ≤ 9223372036854775808 then some (-n) else none)) ∧ w' = w := by
  by_cases h2 : n = 9223372036854775808
  · subst h2
    rw [if_pos (by decide)]
    go_enter Try.func115, Try.ntmps115
    go_wp2
    go_ret2
    exact ⟨rfl, rfl⟩
  · have hne : (n == 9223372036854775808) = false := by simpa using h2
    by_cases h1 : n < 9223372036854775808
    · rw [if_pos (by omega)]
      have h3 : ¬ 9223372036854775808 ≤ n := by omega
      clear h2
      go_enter Try.func115, Try.ntmps115
      go_wp2
      go_ret2
      exact ⟨rfl, rfl⟩
    · rw [if_neg (by omega)]
      have h3 : 9223372036854775808 ≤ n := by omega
      clear h2
      go_enter Try.func115, Try.ntmps115
      go_wp2
      go_ret2
      exact ⟨rfl, rfl⟩
theorem size_bd {a : Int} (h : okI a) : (0 : Int) ≤ a.natAbs ∧ (a.natAbs : Int) < M64 ∧ (a.natAbs : Int) ≤ 9223372036854775808 := by
  unfold okI at h
  rw [M64_eq]
  omega

/-- What the sum of two of one sign comes to. -/
theorem addF_size {a b : Int} (ha : okI a) (hb : okI b) (h : a < 0 ↔ b < 0) :
    addF a b = if a < 0 then (if (a.natAbs : Int) + b.natAbs ≤ 9223372036854775808 then some (-((a.natAbs : Int) + b.natAbs)) else none)
      else (if (a.natAbs : Int) + b.natAbs < 9223372036854775808 then some ((a.natAbs : Int) + b.natAbs) else none) := by
  unfold okI at ha hb
  unfold addF
  by_cases c : a < 0
  · have d : b < 0 := h.1 c
    rw [if_pos c]
    by_cases e : (a.natAbs : Int) + b.natAbs ≤ 9223372036854775808
    · rw [if_pos e, if_pos (show okI (a + b) by unfold okI; omega)]
      congr 1
      omega
    · rw [if_neg e, if_neg (show ¬ okI (a + b) by unfold okI; omega)]
  · have d : ¬ b < 0 := fun d => c (h.2 d)
    rw [if_neg c]
    by_cases e : (a.natAbs : Int) + b.natAbs < 9223372036854775808
    · rw [if_pos e, if_pos (show okI (a + b) by unfold okI; omega)]
      congr 1
      omega
    · rw [if_neg e, if_neg (show ¬ okI (a + b) by unfold okI; omega)]
set_option maxRecDepth 100000 in
set_option maxHeartbeats 2000000 in
theorem refadd_same (a b : Int) (w : World) (ha : okI a) (hb : okI b) (h : a < 0 ↔ b < 0) :
    Calls Try.prog 67 #[.int .i64 a, .int .i64 b] w fun e w' => e = .returned (opt (addF a b)) ∧ Below w.heap.size w w' := by
  obtain ⟨O, hO⟩ : ∃ O, O = addF a b := ⟨_, rfl⟩
  rw [← hO]
  have HO := hide (hO.trans (addF_size ha hb h))
  clear hO
  have Ha := hide ha
  have Hb := hide hb
  obtain ⟨a0, a1, a2⟩ := size_bd ha
  obtain ⟨b0, b1, b2⟩ := size_bd hb
  have hd : (decide (a < 0) == decide (b < 0)) = true := by simpa using h
  clear ha hb h
  go_enter Try.func67, Try.ntmps67
  go_wp2_with (fail)
  (with_reducible refine (refsize_any a _ Ha.out).mono ?_)
  rintro e w' ⟨rfl, rfl⟩
  dsimp only
  go_wp2_with (fail)
  (with_reducible refine (refsize_any b _ Hb.out).mono ?_)
  rintro e w' ⟨rfl, rfl⟩
  dsimp only
  generalize hA : (a.natAbs : Int) = A at *
  generalize hBb : (b.natAbs : Int) = B at *
  have MM : M64 < M128 := by decide
  go_wp2_with (fail)
  (with_reducible refine (sum_any A B _ a0 b0 a1 b1).mono ?_)
  rintro e w1 ⟨rfl, hb1⟩
  have B1 := hide hb1
  clear hb1
  dsimp only
  have s1 : A + B < M128 := by rw [M128_eq]; omega
  go_wp2_with (fail)
  (with_reducible refine (halves_any (A + B) _ (by omega) s1).mono ?_)
  rintro e w2 ⟨rfl, hb2⟩
  have B2 := hide (B1.out.trans (hb2.mono B1.out.size))
  clear hb2 B1
  dsimp only
  by_cases hz : (A + B) / M64 = 0
  · have e2 : (A + B) % M64 = A + B := by rw [M64_eq] at *; omega
    rw [hz, e2]
    clear hz e2
    by_cases hs : a < 0
    · have HO := hide (HO.out.trans (if_pos hs))
      have hdt : decide (a < 0) = true := decide_eq_true hs
      go_wp2_with (fail)
      (with_reducible refine (signed_neg (A + B) _ (by omega)).mono ?_)
      rintro e w3 ⟨rfl, rfl⟩
      dsimp only
      by_cases hv : A + B ≤ 9223372036854775808
      · rw [if_pos hv, opt_some]
        have HO2 := hide (HO.out.trans (if_pos hv))
        clear HO hv
        go_wp2
        go_ret2
        exact ⟨by rw [HO2.out]; rfl, B2.out⟩
      · rw [if_neg hv, opt_none]
        have HO2 := hide (HO.out.trans (if_neg hv))
        clear HO hv
        go_wp2
        go_ret2
        exact ⟨by rw [HO2.out]; rfl, B2.out⟩
    · have HO := hide (HO.out.trans (if_neg hs))
      have hdt : decide (a < 0) = false := decide_eq_false hs
      go_wp2_with (fail)
      (with_reducible refine (signed_pos (A + B) _ (by omega)).mono ?_)
      rintro e w3 ⟨rfl, rfl⟩
      dsimp only
      by_cases hv : A + B < 9223372036854775808
      · rw [if_pos hv, opt_some]
        have HO2 := hide (HO.out.trans (if_pos hv))
        clear HO hv
        go_wp2
        go_ret2
        exact ⟨by rw [HO2.out]; rfl, B2.out⟩
      · rw [if_neg hv, opt_none]
        have HO2 := hide (HO.out.trans (if_neg hv))
        clear HO hv
        go_wp2
        go_ret2
        exact ⟨by rw [HO2.out]; rfl, B2.out⟩
  · have hgz : 0 < (A + B) / M64 := by rw [M64_eq] at *; omega
    have HO2 : Hid (O = none) := hide (by
      rw [HO.out]
      rw [M64_eq] at hgz
      split
      · rw [if_neg (by omega)]
      · rw [if_neg (by omega)])
    clear HO hz
    go_wp2
    go_ret2
    exact ⟨by rw [HO2.out]; rfl, B2.out⟩
set_option maxRecDepth 100000 in
set_option maxHeartbeats 2000000 in
theorem refadd_any (a b : Int) (w : World) (ha : okI a) (hb : okI b) :
    Calls Try.prog 67 #[.int .i64 a, .int .i64 b] w fun e w' => e = .returned (opt (addF a b)) ∧ Below w.heap.size w w' := by
  by_cases h : a < 0 ↔ b < 0
  · exact refadd_same a b w ha hb h
  · have hok : okI (a + b) := by unfold okI at *; omega
    have HO : addF a b = some (a + b) := by unfold addF; rw [if_pos hok]
    rw [HO]
    have hd : (decide (a < 0) == decide (b < 0)) = false := by simpa using h
    have Hok := hide hok
    clear h HO hok
    go_enter Try.func67, Try.ntmps67
    go_wp2
    go_ret2
    exact ⟨by rw [opt_some]; exact congrArg (fun v => Ending.returned (.tuple #[.int .i64 v, .bool true])) (wrap64_id Hok.out), Below.refl _ _⟩

/-! Up -/
theorem down_ok {p g : Int} (hp : okI p) (_ : okI g) : okI (downF p g) := by
  unfold downF
  split
  · decide
  · have h := down_math (p := p) (g := g) (by omega) (by omega)
    unfold okI at *
    omega
theorem down_in {p g : Int} (h0 : 0 ≤ p) (hg : 1 ≤ g) : downF p g = p - p % g := by
  unfold downF
  rw [if_neg (by omega)]
theorem up_in {p g : Int} (h0 : 0 ≤ p) (hg : 1 ≤ g) : upF p g = if p % g = 0 then some p else addF (p - p % g) g := by
  unfold upF
  rw [if_neg (by omega)]
theorem opt_addF (a b : Int) : opt (addF a b) = .tuple #[.int .i64 ((addF a b).getD 0), .bool (addF a b).isSome] := by
  cases addF a b <;> rfl
theorem opt_split (o : Option Int) : opt o = .tuple #[.int .i64 (o.getD 0), .bool o.isSome] := by
  cases o <;> rfl
set_option maxRecDepth 100000 in
set_option maxHeartbeats 2000000 in
theorem fixup_any (p g : Int) (w : World) (hp : okI p) (hg : okI g) :
    Calls Try.prog 50 #[.int .i64 p, .int .i64 g] w fun e w' => e = .returned (opt (upF p g)) ∧ w' = w := by
  by_cases h1 : p < 0
  · have e : upF p g = none := by unfold upF; rw [if_pos (.inl h1)]
    rw [e]
    clear e hp hg
    go_enter Try.func50, Try.ntmps50
    go_wp2
    go_ret2
    exact ⟨rfl, rfl⟩
  by_cases h2 : g < 1
  · have e : upF p g = none := by unfold upF; rw [if_pos (.inr h2)]
    rw [e]
    clear e hp hg
    go_enter Try.func50, Try.ntmps50
    go_wp2
    go_ret2
    exact ⟨rfl, rfl⟩
  have hD := hide (down_ok hp hg)
  have h := down_math (p := p) (g := g) (by omega) (by omega)
  obtain ⟨O, hO⟩ : ∃ O, O = upF p g := ⟨_, rfl⟩
  rw [← hO]
  have HO := hide (hO.trans (up_in (by omega) (by omega)))
  clear hO
  have HE := hide (down_in (p := p) (g := g) (by omega) (by omega))
  have Hp := hide hp
  have Hg := hide hg
  clear hp hg
  go_enter Try.func50, Try.ntmps50
  go_wp2_with (fail)
  (with_reducible refine (down_any p g _ Hp.out Hg.out).mono ?_)
  rintro e w' ⟨rfl, rfl⟩
  dsimp only
  by_cases hz : p % g = 0
  · have HO2 := hide (HO.out.trans (if_pos hz))
    have he : (downF p g == p) = true := by rw [HE.out, hz]; simp
    clear HO hz h
    go_wp2
    go_ret2
    exact ⟨by rw [HO2.out]; rfl, rfl⟩
  · have HO2 := hide (HO.out.trans (if_neg hz))
    have he : (downF p g == p) = false := by rw [HE.out]; simp; omega
    clear HO hz h
    go_wp2_with (fail)
    (with_reducible refine (fixadd_any (downF p g) g _ hD.out Hg.out).mono ?_)
    rintro e w' ⟨rfl, rfl⟩
    dsimp only
    rw [opt_split]
    go_wp2
    go_ret2
    exact ⟨by rw [HO2.out, ← HE.out, opt_split]; rfl, rfl⟩
set_option maxRecDepth 100000 in
set_option maxHeartbeats 2000000 in
theorem refup_any (p g : Int) (w : World) (hp : okI p) (hg : okI g) :
    Calls Try.prog 51 #[.int .i64 p, .int .i64 g] w fun e w' => e = .returned (opt (upF p g)) ∧ Below w.heap.size w w' := by
  by_cases h1 : p < 0
  · have e : upF p g = none := by unfold upF; rw [if_pos (.inl h1)]
    rw [e]
    clear e hp hg
    go_enter Try.func51, Try.ntmps51
    go_wp2
    go_ret2
    exact ⟨rfl, Below.refl _ _⟩
  by_cases h2 : g < 1
  · have e : upF p g = none := by unfold upF; rw [if_pos (.inr h2)]
    rw [e]
    clear e hp hg
    go_enter Try.func51, Try.ntmps51
    go_wp2
    go_ret2
    exact ⟨rfl, Below.refl _ _⟩
  have hne : g ≠ 0 := by omega
  have h := down_math (p := p) (g := g) (by omega) (by omega)
  obtain ⟨O, hO⟩ : ∃ O, O = upF p g := ⟨_, rfl⟩
  rw [← hO]
  have HO := hide (hO.trans (up_in (by omega) (by omega)))
  clear hO
  have Hg := hide hg
  unfold okI at hp hg
  by_cases hz : p % g = 0
  · have HO2 := hide (HO.out.trans (if_pos hz))
    have he : (p % g == 0) = true := by rw [hz]; rfl
    clear HO hz h
    go_enter Try.func51, Try.ntmps51
    go_wp2
    go_ret2
    exact ⟨by rw [HO2.out]; rfl, Below.refl _ _⟩
  · have HO2 := hide (HO.out.trans (if_neg hz))
    have he : (p % g == 0) = false := by simpa using hz
    have Hok : Hid (okI (p - p % g)) := hide (by unfold okI; omega)
    have Hw := hide (wrap64_id Hok.out)
    clear HO hz h
    go_enter Try.func51, Try.ntmps51
    go_wp2_with (fail)
    rw [Hw.out]
    (with_reducible refine (refadd_any (p - p % g) g _ Hok.out Hg.out).mono ?_)
    rintro e w1 ⟨rfl, hb1⟩
    have B1 := hide hb1
    clear hb1
    dsimp only
    rw [opt_split]
    go_wp2
    go_ret2
    exact ⟨by rw [HO2.out, opt_split]; rfl, B1.out⟩
end Go.Proofs.Ytadilccdipcmnaa
