/- The reference's numbers of 128 bits: what Mul, Div, Text come to. Arguments: words from 0 to 2^64 - 1, arrays of the bits of a number from 0 to 2^128 - 1. -/
import Derived.Test.YtadilccdipcmnaaRefB
namespace Go.Proofs.Ytadilccdipcmnaa
open Go Go.RowKit

theorem lowp_bit (b : Int) (h0 : 0 ≤ b) (k : Nat) : lowp b (k + 1) = if b.toNat.testBit k then lowp b k + 2 ^ k else lowp b k := by
  obtain ⟨n, rfl⟩ := Int.eq_ofNat_of_zero_le h0
  have hm : n % 2 ^ (k + 1) = n % 2 ^ k + 2 ^ k * (n / 2 ^ k % 2) := Nat.mod_pow_succ
  have e1 : ∀ k : Nat, lowp (n : Int) k = ((n % 2 ^ k : Nat) : Int) := fun k => by simp [lowp]
  rw [Int.toNat_natCast, Nat.testBit_eq_decide_div_mod_eq, e1, e1, hm]
  by_cases h : n / 2 ^ k % 2 = 1
  · simp [h]
  · have h1 : n / 2 ^ k % 2 = 0 := by omega
    simp [h1]
theorem lowp_bd (b : Int) (h0 : 0 ≤ b) (k : Nat) : 0 ≤ lowp b k ∧ lowp b k ≤ b := by
  obtain ⟨n, rfl⟩ := Int.eq_ofNat_of_zero_le h0
  have e1 : lowp (n : Int) k = ((n % 2 ^ k : Nat) : Int) := by simp [lowp]
  rw [e1]
  have := Nat.mod_le n (2 ^ k)
  omega
theorem mul_bd {a b : Int} (ha : 0 ≤ a) (hb : 0 ≤ b) (ha2 : a < M64) (hb2 : b < M64) : 0 ≤ a * b ∧ a * b < M128 := by
  refine ⟨Int.mul_nonneg ha hb, ?_⟩
  have h1 : a * b ≤ a * (M64 - 1) := Int.mul_le_mul_of_nonneg_left (by omega) ha
  have h2 : a * (M64 - 1) ≤ (M64 - 1) * (M64 - 1) := Int.mul_le_mul_of_nonneg_right (by omega) (by decide)
  have h3 : (M64 - 1) * (M64 - 1) < M128 := by decide
  omega
theorem mul_step {a b : Int} (ha : 0 ≤ a) (hb : 0 ≤ b) (ha2 : a < M64) (hb2 : b < M64) (k : Nat) (hk : k < 64) (hbit : b.toNat.testBit k = true) :
    (a * lowp b k + lft a k) % M128 = a * lowp b (k + 1) := by
  have hp : (0 : Int) ≤ 2 ^ k := Int.pow_nonneg (by decide)
  have e : lft a k = a * 2 ^ k := by
    unfold lft
    rw [if_neg (by omega), if_neg (by omega), Int.toNat_natCast]
    refine Int.emod_eq_of_lt (Int.mul_nonneg ha hp) ?_
    have hb3 := (lowp_bd b hb (k + 1)).2
    have hb4 := (lowp_bd b hb k).1
    rw [lowp_bit b hb, if_pos hbit] at hb3
    exact (mul_bd ha hp ha2 (by omega)).2
  have h2 := mul_bd ha (lowp_bd b hb (k + 1)).1 ha2 (by have := (lowp_bd b hb (k + 1)).2; omega)
  rw [e, ← Int.mul_add]
  have e2 : lowp b k + 2 ^ k = lowp b (k + 1) := by rw [lowp_bit b hb, if_pos hbit]
  rw [e2]
  exact Int.emod_eq_of_lt h2.1 h2.2
theorem mul_skip {b : Int} (hb : 0 ≤ b) (k : Nat) (hbit : b.toNat.testBit k = false) : lowp b k = lowp b (k + 1) := by
  rw [lowp_bit b hb, if_neg (by simp [hbit])]

set_option maxRecDepth 100000 in
set_option maxHeartbeats 2000000 in
theorem refmul_any (a b : Int) (w : World) (ha : 0 ≤ a) (hb : 0 ≤ b) (ha2 : a < M64) (hb2 : b < M64) :
    Calls Try.prog 25 #[.int .u64 a, .int .u64 b] w fun e w' => e = .returned (.agg (bf (bitF (a * b)))) ∧ Below w.heap.size w w' := by
  go_enter Try.func25, Try.ntmps25
  go_wp2_with (first | ((with_reducible apply load_row); exact rfl; exact rfl; exact rfl; focus ((repeat' (first | (with_reducible assumption) | ((with_reducible apply Row.zero'); simp; done) | ((with_reducible apply Row.new'); simp; done) | (with_reducible apply Row.setRow) | (with_reducible apply Row.setRow_other) | (with_reducible apply Row.alloc) | (with_reducible apply Row.drew) | (simp; done) | (simp; omega))); done)) | ((with_reducible apply store_row); exact rfl; exact rfl; exact rfl; exact rfl; focus ((repeat' (first | (with_reducible assumption) | ((with_reducible apply Row.zero'); simp; done) | ((with_reducible apply Row.new'); simp; done) | (with_reducible apply Row.setRow) | (with_reducible apply Row.setRow_other) | (with_reducible apply Row.alloc) | (with_reducible apply Row.drew) | (simp; done) | (simp; omega))); done)))
  (with_reducible refine (of_any 0 a _ (by decide) ha (by decide) ha2).mono ?_)
  rintro e w1 ⟨rfl, hb1⟩
  have rZ : Row w1 w.heap.size (fun _ => false) := Row.below (by (repeat' (first | (with_reducible assumption) | ((with_reducible apply Row.zero'); simp; done) | ((with_reducible apply Row.new'); simp; done) | (with_reducible apply Row.setRow) | (with_reducible apply Row.setRow_other) | (with_reducible apply Row.alloc) | (with_reducible apply Row.drew) | (simp; done) | (simp; omega)))) hb1 (by simp <;> omega)
  have rO : Row w1 (w.heap.size + 1) (fun _ => false) := Row.below (by (repeat' (first | (with_reducible assumption) | ((with_reducible apply Row.zero'); simp; done) | ((with_reducible apply Row.new'); simp; done) | (with_reducible apply Row.setRow) | (with_reducible apply Row.setRow_other) | (with_reducible apply Row.alloc) | (with_reducible apply Row.drew) | (simp; done) | (simp; omega)))) hb1 (by simp <;> omega)
  have B1 : Below w.heap.size w w1 := (((Below.refl _ _).alloc (Nat.le_refl _) _).alloc (by simp) _).trans (hb1.mono (by simp <;> omega))
  clear hb1
  rw [show 0 * M64 + a = a by omega]
  have lZ := rZ.lt
  have lO := rO.lt
  go_wp2_with (first | ((with_reducible apply load_row); exact rfl; exact rfl; exact rfl; focus ((repeat' (first | (with_reducible assumption) | ((with_reducible apply Row.zero'); simp; done) | ((with_reducible apply Row.new'); simp; done) | (with_reducible apply Row.setRow) | (with_reducible apply Row.setRow_other) | (with_reducible apply Row.alloc) | (with_reducible apply Row.drew) | (simp; done) | (simp; omega))); done)) | ((with_reducible apply store_row); exact rfl; exact rfl; exact rfl; exact rfl; focus ((repeat' (first | (with_reducible assumption) | ((with_reducible apply Row.zero'); simp; done) | ((with_reducible apply Row.new'); simp; done) | (with_reducible apply Row.setRow) | (with_reducible apply Row.setRow_other) | (with_reducible apply Row.alloc) | (with_reducible apply Row.drew) | (simp; done) | (simp; omega))); done)))
  have rX : Row ((w1.alloc (Obj.cells Try.zeroCells28 28)).setRow w1.heap.size (bf (bitF a))) w1.heap.size (bitF a) := (by (repeat' (first | (with_reducible assumption) | ((with_reducible apply Row.zero'); simp; done) | ((with_reducible apply Row.new'); simp; done) | (with_reducible apply Row.setRow) | (with_reducible apply Row.setRow_other) | (with_reducible apply Row.alloc) | (with_reducible apply Row.drew) | (simp; done) | (simp; omega))))
  have qZ : Row ((w1.alloc (Obj.cells Try.zeroCells28 28)).setRow w1.heap.size (bf (bitF a))) w.heap.size (fun _ => false) := (by (repeat' (first | (with_reducible assumption) | ((with_reducible apply Row.zero'); simp; done) | ((with_reducible apply Row.new'); simp; done) | (with_reducible apply Row.setRow) | (with_reducible apply Row.setRow_other) | (with_reducible apply Row.alloc) | (with_reducible apply Row.drew) | (simp; done) | (simp; omega))))
  have qO : Row ((w1.alloc (Obj.cells Try.zeroCells28 28)).setRow w1.heap.size (bf (bitF a))) (w.heap.size + 1) (fun _ => false) := (by (repeat' (first | (with_reducible assumption) | ((with_reducible apply Row.zero'); simp; done) | ((with_reducible apply Row.new'); simp; done) | (with_reducible apply Row.setRow) | (with_reducible apply Row.setRow_other) | (with_reducible apply Row.alloc) | (with_reducible apply Row.drew) | (simp; done) | (simp; omega))))
  have qB : Below w.heap.size w ((w1.alloc (Obj.cells Try.zeroCells28 28)).setRow w1.heap.size (bf (bitF a))) := below_setRow (B1.alloc B1.size _) B1.size _
  clear rZ rO B1
  generalize ((w1.alloc (Obj.cells Try.zeroCells28 28)).setRow w1.heap.size (bf (bitF a))) = W at *
  generalize w1.heap.size = d at *
  go_loopw [7] (fun i wr => ∃ k : Nat, k ≤ 64 ∧ i = .int .i64 k ∧ Row wr w.heap.size (fun _ => false) ∧ Row wr (w.heap.size + 1) (bitF (a * lowp b k)) ∧ Row wr d (bitF a) ∧ Below w.heap.size w wr) (fun i _ => 64 - (intOf i).toNat)
  case atStart => exact ⟨0, by omega, rfl, qZ, by rw [lowp_zero, Int.mul_zero]; exact qO.congr (fun j _ => (bitF_zero j).symm), rX, qB⟩
  case round =>
    clear qZ qO rX qB
    obtain ⟨k, hk, rfl, rZ, rO, rX, hB⟩ := hrel
    by_cases hlt : k < 64
    · have T := bit_at b hb hb2 k
      cases hp : b.toNat.testBit k
      · rw [hp] at T
        have S := hide (mul_skip hb k hp)
        clear hp
        go_wp2
        go_roundw
        case rel => exact ⟨k + 1, by omega, by go_num, rZ, by rw [← S.out]; exact rO, rX, hB⟩
        case measure => simp [intOf] <;> omega
      · rw [hp] at T
        have S := hide (mul_step ha hb ha2 hb2 k hlt hp)
        clear hp
        have hOld := mul_bd ha (lowp_bd b hb k).1 ha2 (by have := (lowp_bd b hb k).2; omega)
        have hNew := lft_bd a k ha (by have : M64 < M128 := by decide
                                       omega)
        go_wp2
        refine wp_region_drawn (fun g w' => Row w' w.heap.size (fun _ => false) ∧ Row w' d (bitF a) ∧ (∃ f0, Row w' (w.heap.size + 1) f0 ∧ (g 8 = false → f0 = bitF (a * lowp b k)) ∧ (g 8 = true → f0 = bitF (a * lowp b (k + 1)))) ∧ Below w.heap.size w w') mixed (by kernel_rfl) ⟨rZ.drew, rX.drew, ⟨_, rO.drew, fun _ => rfl, fun h => by cases h⟩, hB.drew⟩ ?_
        refine lex_val (v := .agg (bf (bitF (a * lowp b k)))) rfl (fun g w' hc => hc) (fun g w' hg hc => by obtain ⟨f0, hf, h8, _⟩ := hc.2.2.1; obtain rfl := h8 (hg 8 (by kernel_rfl)); exact exec_load_row _ rfl rfl hf) ?_
        refine lex_val rfl (fun g w' hc => hc) (fun g w' _ hc => exec_load_row _ rfl rfl hc.2.1) ?_
        refine lex_val rfl (fun g w' hc => hc) (fun g w' _ _ => exec_move _ rfl rfl) ?_
        refine lex_call (f := 29) (args := #[.agg (bf (bitF a)), .int .i64 k]) (v := .agg (bf (bitF (lft a k)))) rfl (fun w' => exec_call (by kernel_rfl) rfl rfl) (fun g w' _ hc => ?_) ?_
        · refine (left_any a k w' ha).mono ?_
          rintro e w'' ⟨rfl, hb⟩
          obtain ⟨f0, hf, hg⟩ := hc.2.2.1
          exact ⟨rfl, hc.1.below hb hc.1.lt, hc.2.1.below hb hc.2.1.lt, ⟨f0, hf.below hb hf.lt, hg⟩, hc.2.2.2.trans (hb.mono hc.2.2.2.size)⟩
        refine lex_call (f := 58) (args := #[.agg (bf (bitF (a * lowp b k))), .agg (bf (bitF (lft a k)))]) (v := .tuple #[.agg (bf (bitF (a * lowp b (k + 1)))), .bool (decide (a * lowp b k + lft a k < M128))]) rfl (fun w' => exec_call (by kernel_rfl) rfl rfl) (fun g w' _ hc => ?_) ?_
        · refine (add_any (a * lowp b k) (lft a k) w' hOld.1 hOld.2 hNew.1 hNew.2).mono ?_
          rintro e w'' ⟨rfl, hb⟩
          obtain ⟨f0, hf, hg⟩ := hc.2.2.1
          exact ⟨by rw [S.out], hc.1.below hb hc.1.lt, hc.2.1.below hb hc.2.1.lt, ⟨f0, hf.below hb hf.lt, hg⟩, hc.2.2.2.trans (hb.mono hc.2.2.2.size)⟩
        refine lex_val rfl (fun g w' hc => hc) (fun g w' _ _ => exec_move _ rfl rfl) ?_
        simp only [Act.put, List.setIfInBounds_toArray, List.set_cons_zero, List.set_cons_succ]
        refine lex_val (v := .agg (bf (bitF (a * lowp b (k + 1))))) rfl (fun g w' hc => hc) (fun g w' _ _ => exec_extract _ _ rfl rfl rfl) ?_
        refine lex_val (v := .bool (decide (a * lowp b k + lft a k < M128))) rfl (fun g w' hc => hc) (fun g w' _ _ => exec_extract _ _ rfl rfl rfl) ?_
        simp only [Act.put, List.setIfInBounds_toArray, List.set_cons_zero, List.set_cons_succ]
        refine lex_put rfl (fun g w' _ hc => ?_) ?_
        · obtain ⟨f0, hf, hg⟩ := hc.2.2.1
          exact ⟨_, exec_store_row _ _ rfl rfl rfl hf, hc.1.setRow_other _ (by omega), hc.2.1.setRow_other _ (by omega), ⟨_, hf.setRow, fun h => by simp [mark] at h, fun _ => rfl⟩, below_setRow hc.2.2.2 (by omega) _⟩
        refine lex_nil ?_
        rintro w' ⟨qZ, qX, ⟨f0, qO, -, hg⟩, hB'⟩
        obtain rfl := hg rfl
        clear hg
        go_wp2
        go_roundw
        case rel => exact ⟨k + 1, by omega, by go_num, qZ, qO, qX, hB'⟩
        case measure => simp [intOf] <;> omega
    · obtain rfl : k = 64 := by omega
      clear hlt
      rw [lowp_all b hb hb2] at rO
      go_wp2_with (first | ((with_reducible apply load_row); exact rfl; exact rfl; exact rfl; focus ((repeat' (first | (with_reducible assumption) | ((with_reducible apply Row.zero'); simp; done) | ((with_reducible apply Row.new'); simp; done) | (with_reducible apply Row.setRow) | (with_reducible apply Row.setRow_other) | (with_reducible apply Row.alloc) | (with_reducible apply Row.drew) | (simp; done) | (simp; omega))); done)) | ((with_reducible apply store_row); exact rfl; exact rfl; exact rfl; exact rfl; focus ((repeat' (first | (with_reducible assumption) | ((with_reducible apply Row.zero'); simp; done) | ((with_reducible apply Row.new'); simp; done) | (with_reducible apply Row.setRow) | (with_reducible apply Row.setRow_other) | (with_reducible apply Row.alloc) | (with_reducible apply Row.drew) | (simp; done) | (simp; omega))); done)))
      exact bodyPost_ret (results_row rfl _ _ rfl (by (repeat' (first | (with_reducible assumption) | ((with_reducible apply Row.zero'); simp; done) | ((with_reducible apply Row.new'); simp; done) | (with_reducible apply Row.setRow) | (with_reducible apply Row.setRow_other) | (with_reducible apply Row.alloc) | (with_reducible apply Row.drew) | (simp; done) | (simp; omega))))) rfl ⟨rfl, below_setRow hB (by omega) _⟩

/-! Div -/
theorem bit_join (Q k j : Nat) : (Q * 2 ^ (k + 1) + 2 ^ k).testBit j = if j = k then true else (Q * 2 ^ (k + 1)).testBit j := by
  have e2 : Q * 2 ^ (k + 1) = 2 ^ k * (2 * Q) := by rw [Nat.pow_succ, Nat.mul_comm, Nat.mul_assoc]
  have e1 : Q * 2 ^ (k + 1) + 2 ^ k = 2 ^ k * (2 * Q + 1) := by rw [e2, Nat.mul_add, Nat.mul_one]
  rw [e1, e2, Nat.testBit_two_pow_mul, Nat.testBit_two_pow_mul]
  by_cases h : j = k
  · subst h
    simp
  · rw [if_neg h]
    by_cases h2 : k ≤ j
    · obtain ⟨m, rfl⟩ : ∃ m, j = k + (m + 1) := ⟨j - k - 1, by omega⟩
      rw [show k + (m + 1) - k = m + 1 by omega, Nat.testBit_succ, Nat.testBit_succ]
      congr 2
      omega
    · simp [h2]
theorem bitF_join (Q : Int) (h0 : 0 ≤ Q) (k j : Nat) : upd (bitF (Q * 2 ^ (k + 1))) k true j = bitF (Q * 2 ^ (k + 1) + 2 ^ k) j := by
  obtain ⟨m, rfl⟩ := Int.eq_ofNat_of_zero_le h0
  have e1 : (m : Int) * 2 ^ (k + 1) = ((m * 2 ^ (k + 1) : Nat) : Int) := by simp
  have e2 : (m : Int) * 2 ^ (k + 1) + 2 ^ k = ((m * 2 ^ (k + 1) + 2 ^ k : Nat) : Int) := by simp
  unfold upd bitF
  rw [e2, e1, Int.toNat_natCast, Int.toNat_natCast, bit_join]
def b2i (b : Bool) : Int := if b then 1 else 0
theorem bitF_low (r : Int) (h0 : 0 ≤ r) (b : Bool) (j : Nat) : upd (bitF (r * 2)) 0 b j = bitF (r * 2 + b2i b) j := by
  cases b with
  | true => simpa [b2i] using bitF_join r h0 0 j
  | false =>
    have e : bitF (r * 2) 0 = false := by
      unfold bitF
      rw [Nat.testBit_zero]
      have : (r * 2).toNat % 2 = 0 := by omega
      simp [this]
    unfold upd
    by_cases h : j = 0
    · subst h
      simp [b2i, e]
    · simp [h, b2i]
/-- One step down: the next number by halves. -/
theorem half_down (x : Int) (h0 : 0 ≤ x) (k : Nat) : x / 2 ^ k = x / 2 ^ (k + 1) * 2 + b2i (bitF x k) := by
  obtain ⟨m, rfl⟩ := Int.eq_ofNat_of_zero_le h0
  have e : ∀ k : Nat, (m : Int) / 2 ^ k = ((m / 2 ^ k : Nat) : Int) := fun k => by simp
  have h2 : m / 2 ^ (k + 1) = m / 2 ^ k / 2 := by rw [Nat.pow_succ, Nat.div_div_eq_div_mul]
  rw [e, e, h2]
  unfold bitF b2i
  rw [Int.toNat_natCast, Nat.testBit_eq_decide_div_mod_eq]
  by_cases h : m / 2 ^ k % 2 = 1
  · simp only [h, decide_true, if_true]; omega
  · simp only [h, decide_false, Bool.false_eq_true, if_false]; omega
theorem div_up {x d : Int} (h0 : 0 ≤ x) (hd : 0 < d) (k : Nat) (h : d ≤ x / 2 ^ (k + 1) % d * 2 + b2i (bitF x k)) :
    x / 2 ^ k / d = x / 2 ^ (k + 1) / d * 2 + 1 ∧ x / 2 ^ k % d = x / 2 ^ (k + 1) % d * 2 + b2i (bitF x k) - d := by
  have e := half_down x h0 k
  have hb : 0 ≤ b2i (bitF x k) ∧ b2i (bitF x k) ≤ 1 := by unfold b2i; split <;> omega
  generalize x / 2 ^ (k + 1) = y at *
  generalize b2i (bitF x k) = b at *
  rw [e]
  have hr := Int.emod_lt_of_pos y hd
  have hq := Int.mul_ediv_add_emod y d
  have hz : y * 2 + b = (y % d * 2 + b - d) + d * (y / d * 2 + 1) := by
    rw [Int.mul_add, ← Int.mul_assoc]
    omega
  rw [hz]
  refine ⟨?_, ?_⟩
  · rw [Int.add_mul_ediv_left _ _ (by omega), Int.ediv_eq_zero_of_lt (by omega) (by omega)]
    omega
  · rw [Int.add_mul_emod_self_left]
    exact Int.emod_eq_of_lt (by omega) (by omega)
theorem div_same {x d : Int} (h0 : 0 ≤ x) (hd : 0 < d) (k : Nat) (h : ¬ d ≤ x / 2 ^ (k + 1) % d * 2 + b2i (bitF x k)) :
    x / 2 ^ k / d = x / 2 ^ (k + 1) / d * 2 ∧ x / 2 ^ k % d = x / 2 ^ (k + 1) % d * 2 + b2i (bitF x k) := by
  have e := half_down x h0 k
  have hb : 0 ≤ b2i (bitF x k) ∧ b2i (bitF x k) ≤ 1 := by unfold b2i; split <;> omega
  generalize x / 2 ^ (k + 1) = y at *
  generalize b2i (bitF x k) = b at *
  rw [e]
  have hr := Int.emod_nonneg y (show d ≠ 0 by omega)
  have hq := Int.mul_ediv_add_emod y d
  have hz : y * 2 + b = (y % d * 2 + b) + d * (y / d * 2) := by
    rw [← Int.mul_assoc]
    omega
  rw [hz]
  refine ⟨?_, ?_⟩
  · rw [Int.add_mul_ediv_left _ _ (by omega), Int.ediv_eq_zero_of_lt (by omega) (by omega)]
    omega
  · rw [Int.add_mul_emod_self_left]
    exact Int.emod_eq_of_lt (by omega) (by omega)
end Go.Proofs.Ytadilccdipcmnaa
