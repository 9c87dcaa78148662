/- Plain laws on numbers and their bits: no program in sight. No condition. -/
import Derived.Test.YtadilccdipcmnaaBase
namespace Go.Proofs.Ytadilccdipcmnaa

def M128 : Int := 340282366920938463463374607431768211456
def M64 : Int := 18446744073709551616
theorem M128_eq : M128 = 340282366920938463463374607431768211456 := rfl
theorem M64_eq : M64 = 18446744073709551616 := rfl
theorem M128_nat : M128 = ((2 ^ 128 : Nat) : Int) := by decide +kernel
theorem M128_toNat : M128.toNat = 2 ^ 128 := by decide +kernel

/-! A prefix of one function, the rest of another -/
def mix (f g : Nat → Bool) (k : Nat) : Nat → Bool := fun j => if j < k then g j else f j
theorem mix_zero (f g : Nat → Bool) (j : Nat) : mix f g 0 j = f j := by simp [mix]
theorem mix_step {f g : Nat → Bool} {k : Nat} {b : Bool} (h : b = g k) (j : Nat) : upd (mix f g k) k b j = mix f g (k + 1) j := by
  unfold upd mix
  by_cases h1 : j = k
  · subst h1; simp [h]
  · by_cases h2 : j < k
    · simp [h1, h2, show j < k + 1 by omega]
    · simp [h1, h2, show ¬ j < k + 1 by omega]
theorem mix_same {f g : Nat → Bool} {k : Nat} (h : f k = g k) (j : Nat) : mix f g k j = mix f g (k + 1) j := by
  unfold mix
  by_cases h1 : j = k
  · subst h1; simp [h]
  · by_cases h2 : j < k
    · simp [h2, show j < k + 1 by omega]
    · simp [h2, show ¬ j < k + 1 by omega]
theorem mix_end (f g : Nat → Bool) (j : Nat) (hj : j < 128) : mix f g 128 j = g j := by simp [mix, hj]
theorem mix_at (f g : Nat → Bool) (k : Nat) : mix f g k k = f k := by simp [mix]

/-! Bits -/
theorem bitF_zero (j : Nat) : bitF 0 j = false := by simp [bitF]
theorem bitF_high (x : Int) (h0 : 0 ≤ x) (h : x < M128) (j : Nat) (hj : 128 ≤ j) : bitF x j = false := by
  unfold bitF
  apply Nat.testBit_lt_two_pow
  refine Nat.lt_of_lt_of_le (m := 2 ^ 128) ?_ (Nat.pow_le_pow_right (by decide) hj)
  rw [M128_eq] at h
  omega
theorem bitF_ext {x y : Int} (hx : 0 ≤ x) (hy : 0 ≤ y) (hx2 : x < M128) (hy2 : y < M128) (h : ∀ j, j < 128 → bitF x j = bitF y j) : x = y := by
  have : x.toNat = y.toNat := Nat.eq_of_testBit_eq fun j => by
    by_cases hj : j < 128
    · exact h j hj
    · have a := bitF_high x hx hx2 j (by omega)
      have b := bitF_high y hy hy2 j (by omega)
      unfold bitF at a b
      rw [a, b]
  omega
def bvec (x : Int) : BitVec 128 := BitVec.ofNat 128 x.toNat
theorem bvec_bit (x : Int) (k : Nat) (hk : k < 128) : (bvec x).getLsbD k = bitF x k := by
  rw [bvec, BitVec.getLsbD_ofNat]
  simp [hk, bitF]
theorem bvec_nat (x : Int) (h0 : 0 ≤ x) (h : x < M128) : (bvec x).toNat = x.toNat := by
  simp only [bvec, BitVec.toNat_ofNat]
  rw [M128_eq] at h
  exact Nat.mod_eq_of_lt (by omega)

/-! The sum -/
def cy (x y : Int) (k : Nat) : Bool := BitVec.carry k (bvec x) (bvec y) false
theorem cy_zero (x y : Int) : cy x y 0 = false := by simp [cy, BitVec.carry_zero]
theorem cy_succ (x y : Int) (k : Nat) (hk : k < 128) : cy x y (k + 1) = Bool.atLeastTwo (bitF x k) (bitF y k) (cy x y k) := by
  unfold cy
  rw [BitVec.carry_succ, bvec_bit x k hk, bvec_bit y k hk]
theorem cy_end (x y : Int) (h0 : 0 ≤ x) (h : x < M128) (h0' : 0 ≤ y) (h' : y < M128) : cy x y 128 = decide (M128 ≤ x + y) := by
  simp only [cy, BitVec.carry, bvec_nat x h0 h, bvec_nat y h0' h']
  rw [M128_eq] at h h' ⊢
  rw [Nat.mod_eq_of_lt (by omega : x.toNat < 2 ^ 128), Nat.mod_eq_of_lt (by omega : y.toNat < 2 ^ 128)]
  simp only [Bool.toNat_false, Nat.add_zero]
  by_cases c : 340282366920938463463374607431768211456 ≤ x + y
  · simp only [c, decide_true, decide_eq_true_eq]; omega
  · simp only [c, decide_false, decide_eq_false_iff_not]; omega
theorem sum_bit (x y : Int) (h0 : 0 ≤ x) (h : x < M128) (h0' : 0 ≤ y) (h' : y < M128) (k : Nat) (hk : k < 128) :
    bitF ((x + y) % M128) k = (bitF x k ^^ (bitF y k ^^ cy x y k)) := by
  have e : bvec ((x + y) % M128) = bvec x + bvec y := by
    apply BitVec.eq_of_toNat_eq
    rw [BitVec.toNat_add, bvec_nat x h0 h, bvec_nat y h0' h', bvec_nat _ (Int.emod_nonneg _ (by decide)) (Int.emod_lt_of_pos _ (by decide))]
    rw [M128_eq]
    omega
  rw [← bvec_bit _ k hk, e, BitVec.getLsbD_add hk, bvec_bit x k hk, bvec_bit y k hk]
  rfl
theorem not_bit (x : Int) (h0 : 0 ≤ x) (h : x < M128) (k : Nat) (hk : k < 128) : bitF (M128 - 1 - x) k = !bitF x k := by
  have e : bvec (M128 - 1 - x) = ~~~ bvec x := by
    apply BitVec.eq_of_toNat_eq
    rw [BitVec.toNat_not, bvec_nat x h0 h, bvec_nat _ (by omega) (by omega)]
    rw [M128_eq] at *
    omega
  rw [← bvec_bit _ k hk, e, BitVec.getLsbD_not, bvec_bit x k hk]
  simp [hk]

/-! Moved -/
def lft (x n : Int) : Int := if n < 0 then x else if 128 ≤ n then 0 else x * 2 ^ n.toNat % M128
def rgt (x n : Int) : Int := if n < 0 then x else if 128 ≤ n then 0 else x / 2 ^ n.toNat
theorem lft_bit (x : Int) (h0 : 0 ≤ x) (n j : Nat) (hn : n < 128) (hj : j < 128) : bitF (lft x n) j = (decide (n ≤ j) && bitF x (j - n)) := by
  obtain ⟨m, rfl⟩ := Int.eq_ofNat_of_zero_le h0
  have e : lft (m : Int) n = ((m * 2 ^ n % 2 ^ 128 : Nat) : Int) := by
    unfold lft
    rw [if_neg (by omega), if_neg (by omega), M128_nat]
    simp
  unfold bitF
  rw [e, Int.toNat_natCast, Nat.testBit_mod_two_pow, Int.toNat_natCast, ← Nat.shiftLeft_eq, Nat.testBit_shiftLeft]
  simp [hj]
theorem rgt_bit (x : Int) (h0 : 0 ≤ x) (n j : Nat) (hn : n < 128) : bitF (rgt x n) j = bitF x (j + n) := by
  obtain ⟨m, rfl⟩ := Int.eq_ofNat_of_zero_le h0
  have e : rgt (m : Int) n = ((m / 2 ^ n : Nat) : Int) := by
    unfold rgt
    rw [if_neg (by omega), if_neg (by omega)]
    simp
  unfold bitF
  rw [e, Int.toNat_natCast, Int.toNat_natCast, Nat.testBit_div_two_pow]
theorem lft_bd (x n : Int) (h0 : 0 ≤ x) (h : x < M128) : 0 ≤ lft x n ∧ lft x n < M128 := by
  have hm : (0 : Int) < M128 := by decide
  unfold lft
  split
  · exact ⟨h0, h⟩
  · split
    · exact ⟨by decide, hm⟩
    · exact ⟨Int.emod_nonneg _ (by omega), Int.emod_lt_of_pos _ hm⟩
theorem rgt_bd (x n : Int) (h0 : 0 ≤ x) (h : x < M128) : 0 ≤ rgt x n ∧ rgt x n < M128 := by
  have hm : (0 : Int) < M128 := by decide
  unfold rgt
  split
  · exact ⟨h0, h⟩
  · split
    · exact ⟨by decide, hm⟩
    · exact ⟨Int.ediv_nonneg h0 (Int.pow_nonneg (by decide)), Int.lt_of_le_of_lt (Int.ediv_le_self _ h0) h⟩

/-! How many bits -/
def blenN (n : Nat) : Nat := if n = 0 then 0 else n.log2 + 1
def blen (x : Int) : Int := blenN x.toNat
/-- Of the bits below k. -/
theorem blenN_succ (n k : Nat) : blenN (n % 2 ^ (k + 1)) = if n.testBit k then k + 1 else blenN (n % 2 ^ k) := by
  have hm : n % 2 ^ (k + 1) = n % 2 ^ k + 2 ^ k * (n / 2 ^ k % 2) := Nat.mod_pow_succ
  have hlt : n % 2 ^ k < 2 ^ k := Nat.mod_lt _ (Nat.two_pow_pos k)
  by_cases h : n.testBit k = true
  · rw [if_pos h]
    rw [Nat.testBit_eq_decide_div_mod_eq] at h
    have h1 : n / 2 ^ k % 2 = 1 := by simpa using h
    rw [h1, Nat.mul_one] at hm
    unfold blenN
    rw [if_neg (by omega)]
    congr 1
    rw [Nat.log2_eq_iff (by omega)]
    rw [hm, Nat.pow_succ]
    omega
  · rw [if_neg h]
    rw [Nat.testBit_eq_decide_div_mod_eq] at h
    have h1 : n / 2 ^ k % 2 = 0 := by
      have : ¬ n / 2 ^ k % 2 = 1 := by simpa using h
      omega
    rw [hm, h1, Nat.mul_zero, Nat.add_zero]
theorem blenN_le (n k : Nat) (h : n < 2 ^ k) : blenN n ≤ k := by
  unfold blenN
  split
  · omega
  · have := (Nat.log2_lt (by omega)).2 h
    omega
theorem blenN_lt (n : Nat) : n < 2 ^ blenN n := by
  unfold blenN
  split
  · omega
  · exact Nat.lt_log2_self


theorem lt_of_bit {x y k : Nat} (hx : x.testBit k = false) (hy : y.testBit k = true) (hu : ∀ j, k < j → x.testBit j = y.testBit j) : x < y := by
  have e : x / 2 ^ (k + 1) = y / 2 ^ (k + 1) := Nat.eq_of_testBit_eq fun j => by
    rw [Nat.testBit_div_two_pow, Nat.testBit_div_two_pow]
    exact hu _ (by omega)
  rw [Nat.testBit_eq_decide_div_mod_eq] at hx hy
  have h1 : ¬ x / 2 ^ k % 2 = 1 := by simpa using hx
  have h2 : y / 2 ^ k % 2 = 1 := by simpa using hy
  rw [Nat.pow_succ, ← Nat.div_div_eq_div_mul, ← Nat.div_div_eq_div_mul] at e
  have h3 : x / 2 ^ k < y / 2 ^ k := by omega
  exact Nat.lt_of_not_le fun hle => absurd (Nat.div_le_div_right (c := 2 ^ k) hle) (by omega)

end Go.Proofs.Ytadilccdipcmnaa
