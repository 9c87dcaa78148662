/- Checked whole numbers: what the program's and the reference's Sub, Mul, Notional, Price and Qty come to. Arguments: any int64. -/
import Derived.Test.YtadilccdipcmnaaFixD
namespace Go.Proofs.Ytadilccdipcmnaa
open Go Go.RowKit
attribute [local go_sem] field_two0 field_two1

def subF (a b : Int) : Option Int := if okI (a - b) then some (a - b) else none
def mulF (a b : Int) : Option Int := if okI (a * b) then some (a * b) else none
theorem dec_beq (p q : Prop) [Decidable p] [Decidable q] : (decide p == decide q) = decide (p ↔ q) := by
  by_cases h : p <;> by_cases g : q <;> simp [h, g]
theorem sub_over {a b : Int} (ha : okI a) (hb : okI b) : bits .and .i64 (bits .xor .i64 a b) (bits .xor .i64 a (wrap64 (a - b))) < 0 ↔ ¬ okI (a - b) := by
  have hs := wrap64_ok (a - b)
  have x1 := xor_sign ha hb
  have x2 := xor_sign ha hs
  rw [and_sign x1.1 x2.1, x1.2, x2.2]
  unfold wrap64 at *
  unfold okI at *
  omega
set_option maxRecDepth 100000 in
set_option maxHeartbeats 1000000 in
theorem fixsub_any (a b : Int) (w : World) (ha : okI a) (hb : okI b) :
    Calls Try.prog 65 #[.int .i64 a, .int .i64 b] w fun e w' => e = .returned (opt (subF a b)) ∧ w' = w := by
  have H := sub_over ha hb
  unfold subF
  by_cases h : okI (a - b)
  · rw [if_pos h]
    have h1 := hide h
    have hn : ¬ bits .and .i64 (bits .xor .i64 a b) (bits .xor .i64 a (wrap64 (a - b))) < 0 := fun c => H.1 c h
    clear H h
    go_enter Try.func65, Try.ntmps65
    go_wp2
    go_ret2
    exact ⟨by rw [opt_some]; exact congrArg (fun v => Ending.returned (.tuple #[.int .i64 v, .bool true])) (wrap64_id h1.out), rfl⟩
  · rw [if_neg h]
    have hn := H.2 h
    clear H h
    go_enter Try.func65, Try.ntmps65
    go_wp2
    go_ret2
    exact ⟨rfl, rfl⟩

/-- What the difference of two of two signs comes to. -/
theorem subF_size {a b : Int} (ha : okI a) (hb : okI b) (h : ¬ (a < 0 ↔ b < 0)) :
    subF a b = if a < 0 then (if (a.natAbs : Int) + b.natAbs ≤ 9223372036854775808 then some (-((a.natAbs : Int) + b.natAbs)) else none)
      else (if (a.natAbs : Int) + b.natAbs < 9223372036854775808 then some ((a.natAbs : Int) + b.natAbs) else none) := by
  unfold okI at ha hb
  unfold subF
  by_cases c : a < 0
  · have d : ¬ b < 0 := fun d => h ⟨fun _ => d, fun _ => c⟩
    rw [if_pos c]
    by_cases e : (a.natAbs : Int) + b.natAbs ≤ 9223372036854775808
    · rw [if_pos e, if_pos (show okI (a - b) by unfold okI; omega)]
      congr 1
      omega
    · rw [if_neg e, if_neg (show ¬ okI (a - b) by unfold okI; omega)]
  · have d : b < 0 := by omega
    rw [if_neg c]
    by_cases e : (a.natAbs : Int) + b.natAbs < 9223372036854775808
    · rw [if_pos e, if_pos (show okI (a - b) by unfold okI; omega)]
      congr 1
      omega
    · rw [if_neg e, if_neg (show ¬ okI (a - b) by unfold okI; omega)]
set_option maxRecDepth 100000 in
set_option maxHeartbeats 2000000 in
theorem refsub_diff (a b : Int) (w : World) (ha : okI a) (hb : okI b) (h : ¬ (a < 0 ↔ b < 0)) :
    Calls Try.prog 68 #[.int .i64 a, .int .i64 b] w fun e w' => e = .returned (opt (subF a b)) ∧ Below w.heap.size w w' := by
  obtain ⟨O, hO⟩ : ∃ O, O = subF a b := ⟨_, rfl⟩
  rw [← hO]
  have HO := hide (hO.trans (subF_size ha hb h))
  clear hO
  have Ha := hide ha
  have Hb := hide hb
  obtain ⟨a0, a1, a2⟩ := size_bd ha
  obtain ⟨b0, b1, b2⟩ := size_bd hb
  have hd : (decide (a < 0) == decide (b < 0)) = false := by rw [dec_beq]; exact decide_eq_false h
  clear ha hb h
  go_enter Try.func68, Try.ntmps68
  go_wp2_with (fail)
  (with_reducible refine (refsize_any a _ Ha.out).mono ?_)
  rintro e w' ⟨rfl, rfl⟩
  dsimp only
  go_wp2_with (fail)
  (with_reducible refine (refsize_any b _ Hb.out).mono ?_)
  rintro e w' ⟨rfl, rfl⟩
  dsimp only
  generalize hA : (a.natAbs : Int) = A at *
  generalize hBb : (b.natAbs : Int) = B at *
  have MM : M64 < M128 := by decide
  go_wp2_with (fail)
  (with_reducible refine (sum_any A B _ a0 b0 a1 b1).mono ?_)
  rintro e w1 ⟨rfl, hb1⟩
  have B1 := hide hb1
  clear hb1
  dsimp only
  have s1 : A + B < M128 := by rw [M128_eq]; omega
  go_wp2_with (fail)
  (with_reducible refine (halves_any (A + B) _ (by omega) s1).mono ?_)
  rintro e w2 ⟨rfl, hb2⟩
  have B2 := hide (B1.out.trans (hb2.mono B1.out.size))
  clear hb2 B1
  dsimp only
  by_cases hz : (A + B) / M64 = 0
  · have e2 : (A + B) % M64 = A + B := by rw [M64_eq] at *; omega
    rw [hz, e2]
    clear hz e2
    by_cases hs : a < 0
    · have HO := hide (HO.out.trans (if_pos hs))
      have hdt : decide (a < 0) = true := decide_eq_true hs
      go_wp2_with (fail)
      (with_reducible refine (signed_neg (A + B) _ (by omega)).mono ?_)
      rintro e w3 ⟨rfl, rfl⟩
      dsimp only
      by_cases hv : A + B ≤ 9223372036854775808
      · rw [if_pos hv, opt_some]
        have HO2 := hide (HO.out.trans (if_pos hv))
        clear HO hv
        go_wp2
        go_ret2
        exact ⟨by rw [HO2.out]; rfl, B2.out⟩
      · rw [if_neg hv, opt_none]
        have HO2 := hide (HO.out.trans (if_neg hv))
        clear HO hv
        go_wp2
        go_ret2
        exact ⟨by rw [HO2.out]; rfl, B2.out⟩
    · have HO := hide (HO.out.trans (if_neg hs))
      have hdt : decide (a < 0) = false := decide_eq_false hs
      go_wp2_with (fail)
      (with_reducible refine (signed_pos (A + B) _ (by omega)).mono ?_)
      rintro e w3 ⟨rfl, rfl⟩
      dsimp only
      by_cases hv : A + B < 9223372036854775808
      · rw [if_pos hv, opt_some]
        have HO2 := hide (HO.out.trans (if_pos hv))
        clear HO hv
        go_wp2
        go_ret2
        exact ⟨by rw [HO2.out]; rfl, B2.out⟩
      · rw [if_neg hv, opt_none]
        have HO2 := hide (HO.out.trans (if_neg hv))
        clear HO hv
        go_wp2
        go_ret2
        exact ⟨by rw [HO2.out]; rfl, B2.out⟩
  · have hgz : 0 < (A + B) / M64 := by rw [M64_eq] at *; omega
    have HO2 : Hid (O = none) := hide (by
      rw [HO.out]
      rw [M64_eq] at hgz
      split
      · rw [if_neg (by omega)]
      · rw [if_neg (by omega)])
    clear HO hz
    go_wp2
    go_ret2
    exact ⟨by rw [HO2.out]; rfl, B2.out⟩
set_option maxRecDepth 100000 in
set_option maxHeartbeats 2000000 in
theorem refsub_any (a b : Int) (w : World) (ha : okI a) (hb : okI b) :
    Calls Try.prog 68 #[.int .i64 a, .int .i64 b] w fun e w' => e = .returned (opt (subF a b)) ∧ Below w.heap.size w w' := by
  by_cases h : a < 0 ↔ b < 0
  rotate_left
  · exact refsub_diff a b w ha hb h
  · have hok : okI (a - b) := by unfold okI at *; omega
    have HO : subF a b = some (a - b) := by unfold subF; rw [if_pos hok]
    rw [HO]
    have hd : (decide (a < 0) == decide (b < 0)) = true := by rw [dec_beq]; exact decide_eq_true h
    have Hok := hide hok
    clear h HO hok
    go_enter Try.func68, Try.ntmps68
    go_wp2
    go_ret2
    exact ⟨by rw [opt_some]; exact congrArg (fun v => Ending.returned (.tuple #[.int .i64 v, .bool true])) (wrap64_id Hok.out), Below.refl _ _⟩

/-! Mul -/
def sgn (a : Int) : Int := if a < 0 then -1 else 0
theorem xor_minus {a : Int} (h : okI a) : bits .xor .i64 a (-1) = -a - 1 := by
  show IntKind.i64.wrap ((BitVec.ofInt 64 a ^^^ BitVec.ofInt 64 (-1)).toNat : Int) = _
  have h1 := toNat_ofInt h
  have h2 := (BitVec.ofInt 64 a).isLt
  rw [show BitVec.ofInt 64 (-1) = BitVec.allOnes 64 by decide, BitVec.xor_allOnes, BitVec.toNat_not, IntKind.wrap_i64]
  unfold okI at h
  generalize (BitVec.ofInt 64 a).toNat = n at *
  split at h1 <;> omega
theorem xor_none {a : Int} (h : okI a) : bits .xor .i64 a 0 = a := by
  show IntKind.i64.wrap ((BitVec.ofInt 64 a ^^^ BitVec.ofInt 64 0).toNat : Int) = _
  have h1 := toNat_ofInt h
  have h2 := (BitVec.ofInt 64 a).isLt
  rw [show BitVec.ofInt 64 0 = 0#64 by decide, BitVec.xor_zero, IntKind.wrap_i64]
  unfold okI at h
  generalize (BitVec.ofInt 64 a).toNat = n at *
  split at h1 <;> omega
set_option maxRecDepth 100000 in
set_option maxHeartbeats 2000000 in
theorem sign_any (a : Int) (w : World) (ha : okI a) :
    Calls Try.prog 120 #[.int .i64 a] w fun e w' => e = .returned (.int .i64 (sgn a)) ∧ w' = w := by
  unfold okI at ha
  have hE : a / 9223372036854775808 = sgn a := by unfold sgn; split <;> omega
  have HE := hide hE
  clear hE
  go_enter Try.func120, Try.ntmps120
  go_wp2
  go_ret
  exact ⟨ret_int HE.out, rfl⟩
set_option maxRecDepth 100000 in
set_option maxHeartbeats 2000000 in
theorem fixsize_any (a : Int) (w : World) (ha : okI a) :
    Calls Try.prog 119 #[.int .i64 a] w fun e w' => e = .returned (.int .u64 a.natAbs) ∧ w' = w := by
  have Ha := hide ha
  unfold okI at ha
  by_cases h : a < 0
  · have e : sgn a = -1 := by unfold sgn; rw [if_pos h]
    have HX := hide (xor_minus Ha.out)
    go_enter Try.func119, Try.ntmps119
    go_wp2_with (fail)
    (with_reducible refine (sign_any a _ Ha.out).mono ?_)
    rintro e w' ⟨rfl, rfl⟩
    dsimp only
    rw [e]
    go_wp2_with (fail)
    (with_reducible refine (sign_any a _ Ha.out).mono ?_)
    rintro e w' ⟨rfl, rfl⟩
    dsimp only
    rw [e]
    go_wp2
    go_ret
    exact ⟨ret_int (by rw [HX.out]; unfold wrap64; rw [IntKind.wrap_u64]; omega), rfl⟩
  · have e : sgn a = 0 := by unfold sgn; rw [if_neg h]
    have HX := hide (xor_none Ha.out)
    go_enter Try.func119, Try.ntmps119
    go_wp2_with (fail)
    (with_reducible refine (sign_any a _ Ha.out).mono ?_)
    rintro e w' ⟨rfl, rfl⟩
    dsimp only
    rw [e]
    go_wp2_with (fail)
    (with_reducible refine (sign_any a _ Ha.out).mono ?_)
    rintro e w' ⟨rfl, rfl⟩
    dsimp only
    rw [e]
    go_wp2
    go_ret
    exact ⟨ret_int (by rw [HX.out]; unfold wrap64; rw [IntKind.wrap_u64]; omega), rfl⟩
theorem mulF_size {a b : Int} :
    mulF a b = if a < 0 ↔ b < 0 then (if (a.natAbs : Int) * b.natAbs < 9223372036854775808 then some ((a.natAbs : Int) * b.natAbs) else none)
      else (if (a.natAbs : Int) * b.natAbs ≤ 9223372036854775808 then some (-((a.natAbs : Int) * b.natAbs)) else none) := by
  have hp : 0 ≤ (a.natAbs : Int) * b.natAbs := Int.mul_nonneg (by omega) (by omega)
  unfold mulF
  by_cases h : a < 0 ↔ b < 0
  · rw [if_pos h]
    have e : a * b = (a.natAbs : Int) * b.natAbs := by
      by_cases c : a < 0
      · have d := h.1 c
        rw [show (a.natAbs : Int) = -a by omega, show (b.natAbs : Int) = -b by omega, Int.neg_mul_neg]
      · have d : ¬ b < 0 := fun d => c (h.2 d)
        rw [show (a.natAbs : Int) = a by omega, show (b.natAbs : Int) = b by omega]
    rw [e]
    generalize (a.natAbs : Int) * b.natAbs = P at *
    by_cases f : P < 9223372036854775808
    · rw [if_pos f, if_pos (show okI P by unfold okI; omega)]
    · rw [if_neg f, if_neg (show ¬ okI P by unfold okI; omega)]
  · rw [if_neg h]
    have e : a * b = -((a.natAbs : Int) * b.natAbs) := by
      by_cases c : a < 0
      · have d : ¬ b < 0 := fun d => h ⟨fun _ => d, fun _ => c⟩
        rw [show (a.natAbs : Int) = -a by omega, show (b.natAbs : Int) = b by omega, Int.neg_mul, Int.neg_neg]
      · have d : b < 0 := by omega
        rw [show (a.natAbs : Int) = a by omega, show (b.natAbs : Int) = -b by omega, Int.mul_neg, Int.neg_neg]
    rw [e]
    generalize (a.natAbs : Int) * b.natAbs = P at *
    by_cases f : P ≤ 9223372036854775808
    · rw [if_pos f, if_pos (show okI (-P) by unfold okI; omega)]
    · rw [if_neg f, if_neg (show ¬ okI (-P) by unfold okI; omega)]
set_option maxRecDepth 100000 in
set_option maxHeartbeats 2000000 in
theorem refmul_same (a b : Int) (w : World) (ha : okI a) (hb : okI b) (h : a < 0 ↔ b < 0) :
    Calls Try.prog 69 #[.int .i64 a, .int .i64 b] w fun e w' => e = .returned (opt (mulF a b)) ∧ Below w.heap.size w w' := by
  obtain ⟨O, hO⟩ : ∃ O, O = mulF a b := ⟨_, rfl⟩
  rw [← hO]
  have HO := hide ((hO.trans mulF_size).trans (if_pos h))
  clear hO
  have Ha := hide ha
  have Hb := hide hb
  obtain ⟨a0, a1, -⟩ := size_bd ha
  obtain ⟨b0, b1, -⟩ := size_bd hb
  have hd : (decide (a < 0) == decide (b < 0)) = true := by rw [dec_beq]; exact decide_eq_true h
  clear ha hb h
  go_enter Try.func69, Try.ntmps69
  go_wp2_with (fail)
  (with_reducible refine (refsize_any a _ Ha.out).mono ?_)
  rintro e w' ⟨rfl, rfl⟩
  dsimp only
  go_wp2_with (fail)
  (with_reducible refine (refsize_any b _ Hb.out).mono ?_)
  rintro e w' ⟨rfl, rfl⟩
  dsimp only
  generalize hA : (a.natAbs : Int) = A at *
  generalize hBb : (b.natAbs : Int) = B at *
  obtain ⟨p0, p1⟩ := mul_bd a0 b0 a1 b1
  go_wp2_with (fail)
  (with_reducible refine (refmul_any A B _ a0 b0 a1 b1).mono ?_)
  rintro e w1 ⟨rfl, hb1⟩
  have B1 := hide hb1
  clear hb1
  dsimp only
  go_wp2_with (fail)
  (with_reducible refine (halves_any (A * B) _ p0 p1).mono ?_)
  rintro e w2 ⟨rfl, hb2⟩
  have B2 := hide (B1.out.trans (hb2.mono B1.out.size))
  clear hb2 B1
  dsimp only
  by_cases hz : A * B / M64 = 0
  · have e2 : A * B % M64 = A * B := by rw [M64_eq] at *; omega
    rw [hz, e2]
    clear hz e2
    go_wp2_with (fail)
    (with_reducible refine (signed_pos (A * B) _ p0).mono ?_)
    rintro e w3 ⟨rfl, rfl⟩
    dsimp only
    by_cases hv : A * B < 9223372036854775808
    · rw [if_pos hv, opt_some]
      have HO2 := hide (HO.out.trans (if_pos hv))
      clear HO hv
      go_wp2
      go_ret2
      exact ⟨by rw [HO2.out]; rfl, B2.out⟩
    · rw [if_neg hv, opt_none]
      have HO2 := hide (HO.out.trans (if_neg hv))
      clear HO hv
      go_wp2
      go_ret2
      exact ⟨by rw [HO2.out]; rfl, B2.out⟩
  · have hgz : 0 < A * B / M64 := by rw [M64_eq] at *; omega
    have HO2 : Hid (O = none) := hide (by
      rw [HO.out]
      rw [M64_eq] at hgz
      rw [if_neg (by omega)])
    clear HO hz
    go_wp2
    go_ret2
    exact ⟨by rw [HO2.out]; rfl, B2.out⟩
set_option maxRecDepth 100000 in
set_option maxHeartbeats 2000000 in
theorem refmul_diff (a b : Int) (w : World) (ha : okI a) (hb : okI b) (h : ¬ (a < 0 ↔ b < 0)) :
    Calls Try.prog 69 #[.int .i64 a, .int .i64 b] w fun e w' => e = .returned (opt (mulF a b)) ∧ Below w.heap.size w w' := by
  obtain ⟨O, hO⟩ : ∃ O, O = mulF a b := ⟨_, rfl⟩
  rw [← hO]
  have HO := hide ((hO.trans mulF_size).trans (if_neg h))
  clear hO
  have Ha := hide ha
  have Hb := hide hb
  obtain ⟨a0, a1, -⟩ := size_bd ha
  obtain ⟨b0, b1, -⟩ := size_bd hb
  have hd : (decide (a < 0) == decide (b < 0)) = false := by rw [dec_beq]; exact decide_eq_false h
  clear ha hb h
  go_enter Try.func69, Try.ntmps69
  go_wp2_with (fail)
  (with_reducible refine (refsize_any a _ Ha.out).mono ?_)
  rintro e w' ⟨rfl, rfl⟩
  dsimp only
  go_wp2_with (fail)
  (with_reducible refine (refsize_any b _ Hb.out).mono ?_)
  rintro e w' ⟨rfl, rfl⟩
  dsimp only
  generalize hA : (a.natAbs : Int) = A at *
  generalize hBb : (b.natAbs : Int) = B at *
  obtain ⟨p0, p1⟩ := mul_bd a0 b0 a1 b1
  go_wp2_with (fail)
  (with_reducible refine (refmul_any A B _ a0 b0 a1 b1).mono ?_)
  rintro e w1 ⟨rfl, hb1⟩
  have B1 := hide hb1
  clear hb1
  dsimp only
  go_wp2_with (fail)
  (with_reducible refine (halves_any (A * B) _ p0 p1).mono ?_)
  rintro e w2 ⟨rfl, hb2⟩
  have B2 := hide (B1.out.trans (hb2.mono B1.out.size))
  clear hb2 B1
  dsimp only
  by_cases hz : A * B / M64 = 0
  · have e2 : A * B % M64 = A * B := by rw [M64_eq] at *; omega
    rw [hz, e2]
    clear hz e2
    go_wp2_with (fail)
    (with_reducible refine (signed_neg (A * B) _ p0).mono ?_)
    rintro e w3 ⟨rfl, rfl⟩
    dsimp only
    by_cases hv : A * B ≤ 9223372036854775808
    · rw [if_pos hv, opt_some]
      have HO2 := hide (HO.out.trans (if_pos hv))
      clear HO hv
      go_wp2
      go_ret2
      exact ⟨by rw [HO2.out]; rfl, B2.out⟩
    · rw [if_neg hv, opt_none]
      have HO2 := hide (HO.out.trans (if_neg hv))
      clear HO hv
      go_wp2
      go_ret2
      exact ⟨by rw [HO2.out]; rfl, B2.out⟩
  · have hgz : 0 < A * B / M64 := by rw [M64_eq] at *; omega
    have HO2 : Hid (O = none) := hide (by
      rw [HO.out]
      rw [M64_eq] at hgz
      rw [if_neg (by omega)])
    clear HO hz
    go_wp2
    go_ret2
    exact ⟨by rw [HO2.out]; rfl, B2.out⟩
theorem refmul2_any (a b : Int) (w : World) (ha : okI a) (hb : okI b) :
    Calls Try.prog 69 #[.int .i64 a, .int .i64 b] w fun e w' => e = .returned (opt (mulF a b)) ∧ Below w.heap.size w w' := by
  by_cases h : a < 0 ↔ b < 0
  · exact refmul_same a b w ha hb h
  · exact refmul_diff a b w ha hb h
set_option maxRecDepth 100000 in
set_option maxHeartbeats 2000000 in
theorem fixmul_same (a b : Int) (w : World) (ha : okI a) (hb : okI b) (h : a < 0 ↔ b < 0) :
    Calls Try.prog 66 #[.int .i64 a, .int .i64 b] w fun e w' => e = .returned (opt (mulF a b)) ∧ Below w.heap.size w w' := by
  obtain ⟨O, hO⟩ : ∃ O, O = mulF a b := ⟨_, rfl⟩
  rw [← hO]
  have HO := hide ((hO.trans mulF_size).trans (if_pos h))
  clear hO
  have hx : sgn (bits .xor .i64 a b) = 0 := by unfold sgn; rw [if_neg (fun c => (xor_sign ha hb).2.1 c h)]
  have Hx := hide (xor_sign ha hb).1
  have Ha := hide ha
  have Hb := hide hb
  obtain ⟨a0, a1, -⟩ := size_bd ha
  obtain ⟨b0, b1, -⟩ := size_bd hb
  clear ha hb h
  go_enter Try.func66, Try.ntmps66
  go_wp2_with (fail)
  (with_reducible refine (fixsize_any a _ Ha.out).mono ?_)
  rintro e w' ⟨rfl, rfl⟩
  dsimp only
  go_wp2_with (fail)
  (with_reducible refine (fixsize_any b _ Hb.out).mono ?_)
  rintro e w' ⟨rfl, rfl⟩
  dsimp only
  generalize hA : (a.natAbs : Int) = A at *
  generalize hBb : (b.natAbs : Int) = B at *
  obtain ⟨p0, p1⟩ := mul_bd a0 b0 a1 b1
  go_wp2_with (fail)
  (with_reducible refine (mul_any A B _ a0 b0 a1 b1).mono ?_)
  rintro e w1 ⟨rfl, hb1⟩
  have B1 := hide hb1
  clear hb1
  dsimp only
  generalize A * B = P at *
  have HB3 := hide (B1.out.trans ((show Below w1.heap.size w1 ((w1.alloc (.cells #[.int .u64 0, .int .u64 0] 25)).setRow w1.heap.size #[.int .u64 (P / M64), .int .u64 (P % M64)]) from (by (repeat' (first | (with_reducible exact Below.refl _ _) | (with_reducible apply below_setRow) | (with_reducible apply Below.alloc) | (simp; done) | omega | (simp; omega))))).mono B1.out.size))
  go_wp2_with (first | ((with_reducible apply load_row); exact rfl; exact rfl; exact rfl; focus ((repeat' (first | (with_reducible assumption) | ((with_reducible apply Row.zero'); simp; done) | ((with_reducible apply Row.new'); simp; done) | (with_reducible apply Row.setRow) | (with_reducible apply Row.setRow_other) | (with_reducible apply Row.alloc) | (with_reducible apply Row.drew) | (simp; done) | omega | (simp; omega))); done)) | ((with_reducible apply store_row); exact rfl; exact rfl; exact rfl; exact rfl; focus ((repeat' (first | (with_reducible assumption) | ((with_reducible apply Row.zero'); simp; done) | ((with_reducible apply Row.new'); simp; done) | (with_reducible apply Row.setRow) | (with_reducible apply Row.setRow_other) | (with_reducible apply Row.alloc) | (with_reducible apply Row.drew) | (simp; done) | omega | (simp; omega))); done)) | ((with_reducible apply load_two); exact rfl; exact rfl; exact rfl; focus ((repeat' (first | (with_reducible assumption) | ((with_reducible apply Two.new'); simp; done) | (with_reducible apply Two.setRow) | (with_reducible apply Two.setRow_other) | (with_reducible apply Two.alloc) | (simp; done) | omega | (simp; omega))); done)) | ((with_reducible apply store_two); exact rfl; exact rfl; exact rfl; exact rfl; exact rfl; exact rfl; focus ((repeat' (first | (with_reducible assumption) | ((with_reducible apply Two.new'); simp; done) | (with_reducible apply Two.setRow) | (with_reducible apply Two.setRow_other) | (with_reducible apply Two.alloc) | (simp; done) | omega | (simp; omega))); done)))
  (with_reducible refine (sign_any (bits .xor .i64 a b) _ Hx.out).mono ?_)
  rintro e w' ⟨rfl, rfl⟩
  dsimp only
  rw [hx]
  have tV : Two ((w1.alloc (.cells #[.int .u64 0, .int .u64 0] 25)).setRow w1.heap.size #[.int .u64 (P / M64), .int .u64 (P % M64)]) w1.heap.size (.int .u64 (P / M64)) (.int .u64 (P % M64)) := by (repeat' (first | (with_reducible assumption) | ((with_reducible apply Two.new'); simp; done) | (with_reducible apply Two.setRow) | (with_reducible apply Two.setRow_other) | (with_reducible apply Two.alloc) | (simp; done) | omega | (simp; omega)))
  by_cases hv : P < 9223372036854775808
  · have e1 : P / M64 = 0 := by rw [M64_eq]; omega
    have e2 : P % M64 = P := by rw [M64_eq]; omega
    have c0 := tV.c0.trans (by rw [e1] : _ = some (Value.int .u64 0))
    have c1 := tV.c1.trans (by rw [e2] : _ = some (Value.int .u64 P))
    have hle : ¬ 9223372036854775807 < P := by omega
    have HO2 := hide (HO.out.trans (if_pos hv))
    have HP := hide (show 0 ≤ P ∧ P < 9223372036854775808 from ⟨p0, hv⟩)
    clear HO e1 e2 tV
    go_wp2
    go_ret2
    exact ⟨by rw [HO2.out]; exact congrArg (fun v => Ending.returned (.tuple #[.int .i64 v, .bool true])) (by rw [xor_none (show okI P by unfold okI; have := HP.out; omega)]; exact wrap64_id (by unfold okI; have := HP.out; omega)), HB3.out⟩
  · have HO2 := hide (HO.out.trans (if_neg hv))
    clear HO
    by_cases e1 : P / M64 = 0
    · have c0 := tV.c0.trans (by rw [e1] : _ = some (Value.int .u64 0))
      have c1 := tV.c1
      have hle : 9223372036854775807 < P % M64 := by rw [M64_eq] at *; omega
      clear e1 tV hv
      go_wp2
      go_ret2
      exact ⟨by rw [HO2.out]; rfl, HB3.out⟩
    · have c0 := tV.c0
      have hne : (P / M64 == 0) = false := by simpa using e1
      have hne2 : (P / M64 != 0) = true := by simpa using e1
      clear tV hv
      go_wp2
      go_ret2
      exact ⟨by rw [HO2.out]; rfl, HB3.out⟩
set_option maxRecDepth 100000 in
set_option maxHeartbeats 2000000 in
theorem fixmul_diff (a b : Int) (w : World) (ha : okI a) (hb : okI b) (h : ¬ (a < 0 ↔ b < 0)) :
    Calls Try.prog 66 #[.int .i64 a, .int .i64 b] w fun e w' => e = .returned (opt (mulF a b)) ∧ Below w.heap.size w w' := by
  obtain ⟨O, hO⟩ : ∃ O, O = mulF a b := ⟨_, rfl⟩
  rw [← hO]
  have HO := hide ((hO.trans mulF_size).trans (if_neg h))
  clear hO
  have hx : sgn (bits .xor .i64 a b) = -1 := by unfold sgn; rw [if_pos ((xor_sign ha hb).2.2 h)]
  have Hx := hide (xor_sign ha hb).1
  have Ha := hide ha
  have Hb := hide hb
  obtain ⟨a0, a1, -⟩ := size_bd ha
  obtain ⟨b0, b1, -⟩ := size_bd hb
  clear ha hb h
  go_enter Try.func66, Try.ntmps66
  go_wp2_with (fail)
  (with_reducible refine (fixsize_any a _ Ha.out).mono ?_)
  rintro e w' ⟨rfl, rfl⟩
  dsimp only
  go_wp2_with (fail)
  (with_reducible refine (fixsize_any b _ Hb.out).mono ?_)
  rintro e w' ⟨rfl, rfl⟩
  dsimp only
  generalize hA : (a.natAbs : Int) = A at *
  generalize hBb : (b.natAbs : Int) = B at *
  obtain ⟨p0, p1⟩ := mul_bd a0 b0 a1 b1
  go_wp2_with (fail)
  (with_reducible refine (mul_any A B _ a0 b0 a1 b1).mono ?_)
  rintro e w1 ⟨rfl, hb1⟩
  have B1 := hide hb1
  clear hb1
  dsimp only
  generalize A * B = P at *
  have HB3 := hide (B1.out.trans ((show Below w1.heap.size w1 ((w1.alloc (.cells #[.int .u64 0, .int .u64 0] 25)).setRow w1.heap.size #[.int .u64 (P / M64), .int .u64 (P % M64)]) from (by (repeat' (first | (with_reducible exact Below.refl _ _) | (with_reducible apply below_setRow) | (with_reducible apply Below.alloc) | (simp; done) | omega | (simp; omega))))).mono B1.out.size))
  go_wp2_with (first | ((with_reducible apply load_row); exact rfl; exact rfl; exact rfl; focus ((repeat' (first | (with_reducible assumption) | ((with_reducible apply Row.zero'); simp; done) | ((with_reducible apply Row.new'); simp; done) | (with_reducible apply Row.setRow) | (with_reducible apply Row.setRow_other) | (with_reducible apply Row.alloc) | (with_reducible apply Row.drew) | (simp; done) | omega | (simp; omega))); done)) | ((with_reducible apply store_row); exact rfl; exact rfl; exact rfl; exact rfl; focus ((repeat' (first | (with_reducible assumption) | ((with_reducible apply Row.zero'); simp; done) | ((with_reducible apply Row.new'); simp; done) | (with_reducible apply Row.setRow) | (with_reducible apply Row.setRow_other) | (with_reducible apply Row.alloc) | (with_reducible apply Row.drew) | (simp; done) | omega | (simp; omega))); done)) | ((with_reducible apply load_two); exact rfl; exact rfl; exact rfl; focus ((repeat' (first | (with_reducible assumption) | ((with_reducible apply Two.new'); simp; done) | (with_reducible apply Two.setRow) | (with_reducible apply Two.setRow_other) | (with_reducible apply Two.alloc) | (simp; done) | omega | (simp; omega))); done)) | ((with_reducible apply store_two); exact rfl; exact rfl; exact rfl; exact rfl; exact rfl; exact rfl; focus ((repeat' (first | (with_reducible assumption) | ((with_reducible apply Two.new'); simp; done) | (with_reducible apply Two.setRow) | (with_reducible apply Two.setRow_other) | (with_reducible apply Two.alloc) | (simp; done) | omega | (simp; omega))); done)))
  (with_reducible refine (sign_any (bits .xor .i64 a b) _ Hx.out).mono ?_)
  rintro e w' ⟨rfl, rfl⟩
  dsimp only
  rw [hx]
  have tV : Two ((w1.alloc (.cells #[.int .u64 0, .int .u64 0] 25)).setRow w1.heap.size #[.int .u64 (P / M64), .int .u64 (P % M64)]) w1.heap.size (.int .u64 (P / M64)) (.int .u64 (P % M64)) := by (repeat' (first | (with_reducible assumption) | ((with_reducible apply Two.new'); simp; done) | (with_reducible apply Two.setRow) | (with_reducible apply Two.setRow_other) | (with_reducible apply Two.alloc) | (simp; done) | omega | (simp; omega)))
  by_cases hv : P ≤ 9223372036854775808
  · have e1 : P / M64 = 0 := by rw [M64_eq]; omega
    have e2 : P % M64 = P := by rw [M64_eq]; omega
    have c0 := tV.c0.trans (by rw [e1] : _ = some (Value.int .u64 0))
    have c1 := tV.c1.trans (by rw [e2] : _ = some (Value.int .u64 P))
    have hle : ¬ 9223372036854775808 < P := by omega
    have HO2 := hide (HO.out.trans (if_pos hv))
    have HP := hide (show 0 ≤ P ∧ P ≤ 9223372036854775808 from ⟨p0, hv⟩)
    clear HO e1 e2 tV
    by_cases hm : P = 9223372036854775808
    · subst hm
      go_wp2
      go_ret2
      exact ⟨by rw [HO2.out]; exact congrArg (fun v => Ending.returned (.tuple #[.int .i64 v, .bool true])) (show _ = (-9223372036854775808 : Int) by rw [show wrap64 9223372036854775808 = -9223372036854775808 by unfold wrap64; omega, xor_minus (by decide)]; unfold wrap64; omega), HB3.out⟩
    · have hm2 : P < 9223372036854775808 := by have := HP.out; omega
      clear hm
      go_wp2
      go_ret2
      exact ⟨by rw [HO2.out]; exact congrArg (fun v => Ending.returned (.tuple #[.int .i64 v, .bool true])) (by rw [xor_minus (show okI P by unfold okI; have := HP.out; omega)]; unfold wrap64; have := HP.out; omega), HB3.out⟩
  · have HO2 := hide (HO.out.trans (if_neg hv))
    clear HO
    by_cases e1 : P / M64 = 0
    · have c0 := tV.c0.trans (by rw [e1] : _ = some (Value.int .u64 0))
      have c1 := tV.c1
      have hle : 9223372036854775808 < P % M64 := by rw [M64_eq] at *; omega
      clear e1 tV hv
      go_wp2
      go_ret2
      exact ⟨by rw [HO2.out]; rfl, HB3.out⟩
    · have c0 := tV.c0
      have hne : (P / M64 == 0) = false := by simpa using e1
      have hne2 : (P / M64 != 0) = true := by simpa using e1
      clear tV hv
      go_wp2
      go_ret2
      exact ⟨by rw [HO2.out]; rfl, HB3.out⟩
theorem fixmul_any (a b : Int) (w : World) (ha : okI a) (hb : okI b) :
    Calls Try.prog 66 #[.int .i64 a, .int .i64 b] w fun e w' => e = .returned (opt (mulF a b)) ∧ Below w.heap.size w w' := by
  by_cases h : a < 0 ↔ b < 0
  · exact fixmul_same a b w ha hb h
  · exact fixmul_diff a b w ha hb h

/-! Notional, Price, Qty -/
def notF (a b : Int) : Option Int := if a < 0 ∨ b < 0 then none else mulF a b
def priceF (p g : Int) : Int := if g < 1 then 1 else if p < 1 ∨ 1099511627776 < p then 9 else if p % g = 0 then 0 else 8
def qtyF (q : Int) : Int := if q < 1 ∨ 4294967296 < q then 9 else 0
set_option maxRecDepth 100000 in
set_option maxHeartbeats 2000000 in
theorem notional_any (a b : Int) (w : World) (ha : okI a) (hb : okI b) :
    Calls Try.prog 70 #[.int .i64 a, .int .i64 b] w fun e w' => e = .returned (opt (notF a b)) ∧ Below w.heap.size w w' := by
  have Ha := hide ha
  have Hb := hide hb
  clear ha hb
  by_cases h1 : a < 0
  · have e : notF a b = none := by unfold notF; rw [if_pos (.inl h1)]
    rw [e]
    clear e
    go_enter Try.func70, Try.ntmps70
    go_wp2
    go_ret2
    exact ⟨rfl, Below.refl _ _⟩
  by_cases h2 : b < 0
  · have e : notF a b = none := by unfold notF; rw [if_pos (.inr h2)]
    rw [e]
    clear e
    go_enter Try.func70, Try.ntmps70
    go_wp2
    go_ret2
    exact ⟨rfl, Below.refl _ _⟩
  have HO := hide (show notF a b = mulF a b from if_neg (by omega))
  generalize notF a b = O at *
  go_enter Try.func70, Try.ntmps70
  go_wp2_with (fail)
  (with_reducible refine (fixmul_any a b _ Ha.out Hb.out).mono ?_)
  rintro e w1 ⟨rfl, hb1⟩
  have B1 := hide hb1
  clear hb1
  dsimp only
  rw [opt_split]
  go_wp2
  go_ret2
  exact ⟨by rw [HO.out, opt_split]; rfl, B1.out⟩
set_option maxRecDepth 100000 in
set_option maxHeartbeats 2000000 in
theorem refnotional_any (a b : Int) (w : World) (ha : okI a) (hb : okI b) :
    Calls Try.prog 71 #[.int .i64 a, .int .i64 b] w fun e w' => e = .returned (opt (notF a b)) ∧ Below w.heap.size w w' := by
  have Ha := hide ha
  have Hb := hide hb
  clear ha hb
  by_cases h1 : a < 0
  · have e : notF a b = none := by unfold notF; rw [if_pos (.inl h1)]
    rw [e]
    clear e
    go_enter Try.func71, Try.ntmps71
    go_wp2
    go_ret2
    exact ⟨rfl, Below.refl _ _⟩
  by_cases h2 : b < 0
  · have e : notF a b = none := by unfold notF; rw [if_pos (.inr h2)]
    rw [e]
    clear e
    go_enter Try.func71, Try.ntmps71
    go_wp2
    go_ret2
    exact ⟨rfl, Below.refl _ _⟩
  have HO := hide (show notF a b = mulF a b from if_neg (by omega))
  generalize notF a b = O at *
  go_enter Try.func71, Try.ntmps71
  go_wp2_with (fail)
  (with_reducible refine (refmul2_any a b _ Ha.out Hb.out).mono ?_)
  rintro e w1 ⟨rfl, hb1⟩
  have B1 := hide hb1
  clear hb1
  dsimp only
  rw [opt_split]
  go_wp2
  go_ret2
  exact ⟨by rw [HO.out, opt_split]; rfl, B1.out⟩
set_option maxRecDepth 100000 in
set_option maxHeartbeats 2000000 in
theorem price_any (p g : Int) (w : World) (hp : okI p) (hg : okI g) :
    Calls Try.prog 63 #[.int .i64 p, .int .i64 g] w fun e w' => e = .returned (.int .i64 (priceF p g)) ∧ w' = w := by
  by_cases h1 : g < 1
  · have e : priceF p g = 1 := by unfold priceF; rw [if_pos h1]
    rw [e]
    clear e hp hg
    go_enter Try.func63, Try.ntmps63
    go_wp2
    go_ret
    exact ⟨rfl, rfl⟩
  by_cases h2 : p < 1
  · have e : priceF p g = 9 := by unfold priceF; rw [if_neg (by omega), if_pos (.inl h2)]
    rw [e]
    clear e hp hg
    go_enter Try.func63, Try.ntmps63
    go_wp2
    go_ret
    exact ⟨rfl, rfl⟩
  by_cases h3 : 1099511627776 < p
  · have e : priceF p g = 9 := by unfold priceF; rw [if_neg (by omega), if_pos (.inr h3)]
    rw [e]
    clear e hp hg
    go_enter Try.func63, Try.ntmps63
    go_wp2
    go_ret
    exact ⟨rfl, rfl⟩
  have h := down_math (p := p) (g := g) (by omega) (by omega)
  have HE := hide (down_in (p := p) (g := g) (by omega) (by omega))
  have Hp := hide hp
  have Hg := hide hg
  have hgne : g ≠ 0 := by omega
  unfold okI at hp hg
  by_cases hz : p % g = 0
  · have e : priceF p g = 0 := by unfold priceF; rw [if_neg (by omega), if_neg (by omega), if_pos hz]
    rw [e]
    have he : (downF p g == p) = true := by rw [HE.out, hz]; simp
    have he2 : (p % g == 0) = true := by rw [hz]; rfl
    clear e hz h
    go_enter Try.func63, Try.ntmps63
    go_wp2_with (fail)
    (with_reducible refine (down_any p g _ Hp.out Hg.out).mono ?_)
    rintro e w' ⟨rfl, rfl⟩
    dsimp only
    go_wp2
    go_ret
    exact ⟨rfl, rfl⟩
  · have e : priceF p g = 8 := by unfold priceF; rw [if_neg (by omega), if_neg (by omega), if_neg hz]
    rw [e]
    have he : (downF p g == p) = false := by rw [HE.out]; simp; omega
    have he2 : (p % g == 0) = false := by simpa using hz
    clear e hz h
    go_enter Try.func63, Try.ntmps63
    go_wp2_with (fail)
    (with_reducible refine (down_any p g _ Hp.out Hg.out).mono ?_)
    rintro e w' ⟨rfl, rfl⟩
    dsimp only
    go_wp2
    go_ret
    exact ⟨rfl, rfl⟩
set_option maxRecDepth 100000 in
set_option maxHeartbeats 2000000 in
theorem refprice_any (p g : Int) (w : World) (hp : okI p) (hg : okI g) :
    Calls Try.prog 72 #[.int .i64 p, .int .i64 g] w fun e w' => e = .returned (.int .i64 (priceF p g)) ∧ w' = w := by
  by_cases h1 : g < 1
  · have e : priceF p g = 1 := by unfold priceF; rw [if_pos h1]
    rw [e]
    clear e hp hg
    go_enter Try.func72, Try.ntmps72
    go_wp2
    go_ret
    exact ⟨rfl, rfl⟩
  by_cases h2 : p < 1
  · have e : priceF p g = 9 := by unfold priceF; rw [if_neg (by omega), if_pos (.inl h2)]
    rw [e]
    clear e hp hg
    go_enter Try.func72, Try.ntmps72
    go_wp2
    go_ret
    exact ⟨rfl, rfl⟩
  by_cases h3 : 1099511627776 < p
  · have e : priceF p g = 9 := by unfold priceF; rw [if_neg (by omega), if_pos (.inr h3)]
    rw [e]
    clear e hp hg
    go_enter Try.func72, Try.ntmps72
    go_wp2
    go_ret
    exact ⟨rfl, rfl⟩
  have h := down_math (p := p) (g := g) (by omega) (by omega)
  have HE := hide (down_in (p := p) (g := g) (by omega) (by omega))
  have Hp := hide hp
  have Hg := hide hg
  have hgne : g ≠ 0 := by omega
  unfold okI at hp hg
  by_cases hz : p % g = 0
  · have e : priceF p g = 0 := by unfold priceF; rw [if_neg (by omega), if_neg (by omega), if_pos hz]
    rw [e]
    have he : (downF p g == p) = true := by rw [HE.out, hz]; simp
    have he2 : (p % g == 0) = true := by rw [hz]; rfl
    clear e hz h
    go_enter Try.func72, Try.ntmps72
    go_wp2
    go_ret
    exact ⟨rfl, rfl⟩
  · have e : priceF p g = 8 := by unfold priceF; rw [if_neg (by omega), if_neg (by omega), if_neg hz]
    rw [e]
    have he : (downF p g == p) = false := by rw [HE.out]; simp; omega
    have he2 : (p % g == 0) = false := by simpa using hz
    clear e hz h
    go_enter Try.func72, Try.ntmps72
    go_wp2
    go_ret
    exact ⟨rfl, rfl⟩
set_option maxRecDepth 100000 in
set_option maxHeartbeats 2000000 in
theorem refqty_any (q : Int) (w : World) :
    Calls Try.prog 74 #[.int .i64 q] w fun e w' => e = .returned (.int .i64 (qtyF q)) ∧ w' = w := by
  unfold qtyF
  by_cases h1 : q < 1
  · rw [if_pos (.inl h1)]
    go_enter Try.func74, Try.ntmps74
    go_wp2
    go_ret
    exact ⟨rfl, rfl⟩
  by_cases h2 : 4294967296 < q
  · rw [if_pos (.inr h2)]
    go_enter Try.func74, Try.ntmps74
    go_wp2
    go_ret
    exact ⟨rfl, rfl⟩
  rw [if_neg (by omega)]
  go_enter Try.func74, Try.ntmps74
  go_wp2
  go_ret
  exact ⟨rfl, rfl⟩
set_option maxRecDepth 100000 in
set_option maxHeartbeats 2000000 in
theorem qty1_any (q lo hi : Int) (g : Nat) (w : World) (hc : w.cell? ⟨g, 0, none⟩ = some (.int .i64 q)) :
    Calls Try.prog 123 #[.int .i64 lo, .int .i64 hi, .pointer (some ⟨g, 0, none⟩)] w fun e w' => e = .returned (.bool (decide (lo ≤ q ∧ q ≤ hi))) ∧ w' = w := by
  by_cases h1 : lo ≤ q
  · by_cases h2 : q ≤ hi
    · rw [decide_eq_true ⟨h1, h2⟩]
      go_enter Try.func123, Try.ntmps123
      go_wp2
      go_ret
      exact ⟨rfl, rfl⟩
    · rw [decide_eq_false (by omega)]
      go_enter Try.func123, Try.ntmps123
      go_wp2
      go_ret
      exact ⟨rfl, rfl⟩
  · rw [decide_eq_false (by omega)]
    go_enter Try.func123, Try.ntmps123
    go_wp2
    go_ret
    exact ⟨rfl, rfl⟩
set_option maxRecDepth 100000 in
set_option maxHeartbeats 2000000 in
theorem qty_any (q : Int) (w : World) :
    Calls Try.prog 73 #[.int .i64 q] w fun e w' => e = .returned (.int .i64 (qtyF q)) ∧ Below w.heap.size w w' := by
  have hE : qtyF q = if decide (1 ≤ q ∧ q ≤ 4294967296) = true then 0 else 9 := by
    unfold qtyF
    by_cases h : 1 ≤ q ∧ q ≤ 4294967296
    · rw [decide_eq_true h, if_neg (by omega)]; rfl
    · rw [decide_eq_false h, if_pos (by omega)]; rfl
  have HE := hide hE
  clear hE
  have hc : (w.alloc (.cells #[.int .i64 q] 2)).cell? ⟨w.heap.size, 0, none⟩ = some (.int .i64 q) := by
    rw [cell_of_row _ w.heap.size 0 #[.int .i64 q] 2 (0, 0) (heap_alloc_new w _)]
    rfl
  go_enter Try.func73, Try.ntmps73
  go_wp2_with (fail)
  (with_reducible refine (qty1_any q 1 4294967296 w.heap.size _ hc).mono ?_)
  rintro e w1 ⟨rfl, rfl⟩
  dsimp only
  by_cases h : 1 ≤ q ∧ q ≤ 4294967296
  · have HE2 := hide (HE.out.trans (if_pos (decide_eq_true h)))
    rw [decide_eq_true h]
    clear h HE hc
    go_wp2
    go_ret
    exact ⟨by rw [HE2.out]; rfl, (Below.refl _ _).alloc (Nat.le_refl _) _⟩
  · have HE2 := hide (HE.out.trans (if_neg (by rw [decide_eq_false h]; decide)))
    rw [decide_eq_false h]
    clear h HE hc
    go_wp2
    go_ret
    exact ⟨by rw [HE2.out]; rfl, (Below.refl _ _).alloc (Nat.le_refl _) _⟩
end Go.Proofs.Ytadilccdipcmnaa
