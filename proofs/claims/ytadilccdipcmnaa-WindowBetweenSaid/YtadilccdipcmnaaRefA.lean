/- The reference's numbers of 128 bits, function by function: what each of Of, Halves, Add, not, Sub, Cmp, Left, Right, Len comes to. Arguments: words from 0 to 2^64 - 1, arrays of the bits of a number from 0 to 2^128 - 1. -/
import Derived.Test.YtadilccdipcmnaaMath
import Derived.Test.YtadilccdipcmnaaReg
namespace Go.Proofs.Ytadilccdipcmnaa
open Go Go.RowKit
def ofF (a b : Int) (k : Nat) : Nat → Bool := fun j => if j < 64 then decide (j < k) && b.toNat.testBit j else decide (j < k + 64) && a.toNat.testBit (j - 64)
theorem ofF_step (a b : Int) (k : Nat) (hk : k < 64) (j : Nat) : upd (upd (ofF a b k) k (b.toNat.testBit k)) (k + 64) (a.toNat.testBit k) j = ofF a b (k + 1) j := by
  unfold upd ofF
  by_cases h1 : j = k + 64
  · subst h1; simp
  · by_cases h2 : j = k
    · subst h2; simp [hk]
    · simp only [h1, h2, if_false]
      by_cases h3 : j < 64
      · simp only [h3, if_true]; congr 1; simp; omega
      · simp only [h3, if_false]; congr 1; simp; omega
theorem ofF_end (a b : Int) (ha : 0 ≤ a) (hb : 0 ≤ b) (hb2 : b < 18446744073709551616) (j : Nat) (hj : j < 128) : ofF a b 64 j = bitF (a * 18446744073709551616 + b) j := by
  obtain ⟨m, rfl⟩ := Int.eq_ofNat_of_zero_le ha
  obtain ⟨n, rfl⟩ := Int.eq_ofNat_of_zero_le hb
  have e : ((m : Int) * 18446744073709551616 + (n : Int)).toNat = 2 ^ 64 * m + n := by omega
  unfold bitF ofF
  rw [e, Nat.testBit_two_pow_mul_add m (by omega : n < 2 ^ 64)]
  simp only [Int.toNat_natCast]
  by_cases h : j < 64
  · simp [h]
  · simp [h]; omega
set_option maxHeartbeats 400000 in
theorem of_any (a b : Int) (w : World) (ha : 0 ≤ a) (hb : 0 ≤ b) (ha2 : a < M64) (hb2 : b < M64) :
    Calls Try.prog 27 #[.int .u64 a, .int .u64 b] w fun e w' => e = .returned (.agg (bf (bitF (a * M64 + b)))) ∧ Below w.heap.size w w' := by
  go_enter Try.func27, Try.ntmps27
  go_wp2
  rw [bf_zero]
  go_loopw [6] (fun i wr => ∃ k : Nat, k ≤ 64 ∧ i = .int .i64 k ∧ Row wr w.heap.size (fun _ => false) ∧ Row wr (w.heap.size + 1) (ofF a b k) ∧ Below w.heap.size w wr) (fun i _ => 64 - (intOf i).toNat)
  case atStart => exact ⟨0, by omega, rfl, (Row.new w _).alloc _, (Row.new' _ (by simp <;> omega)).congr (fun j hj => by simp [ofF]; omega), ((Below.refl _ _).alloc (Nat.le_refl _) _).alloc (by simp <;> omega) _⟩
  case round =>
    obtain ⟨k, hk, rfl, h0, hR, hB⟩ := hrel
    by_cases hlt : k < 64
    · have c1 := hR.cell (i := k) (by omega)
      have c2 := hR.free k
      have d1 := hR.cell (i := k + 64) (by omega)
      have d2 := hR.free (k + 64)
      have b1 := bit_at b hb hb2 k
      have b2 := bit_at a ha ha2 k
      go_wp2
      go_roundw
      case rel => exact ⟨k + 1, by omega, by go_num, (h0.setCell _ (by simp <;> omega)).setCell _ (by simp <;> omega), ((hR.set _ _).set _ _).congr (fun j _ => ofF_step a b k hlt j), (hB.setCell (by simp <;> omega) _).setCell (by simp <;> omega) _⟩
      case measure => simp [intOf] <;> omega
    · obtain rfl : k = 64 := by omega
      clear hlt
      have e : ∀ j, j < 128 → ofF a b 64 j = bitF (a * 18446744073709551616 + b) j := fun j hj => ofF_end a b ha hb hb2 j hj
      have E := hide e
      have hR' := hide hR
      have h0' := hide h0
      clear e hR h0
      go_wp2_with (first | (refine load_row rfl (Operand.tmp 5) rfl rfl hR'.out ?_) | (refine store_row rfl (Operand.tmp 4) (Operand.tmp 28) rfl rfl rfl h0'.out ?_))
      refine bodyPost_ret (results_row rfl _ _ rfl h0'.out.setRow) rfl ⟨?_, below_setRow hB (Nat.le_refl _) _⟩
      rw [bf_congr E.out]; rfl

/-- Whatever the sum's round found: the bit that it puts down, and what it carries. -/
theorem add_put {x y : Int} (h0 : 0 ≤ x) (h : x < M128) (h0' : 0 ≤ y) (h' : y < M128) {k : Nat} (hk : k < 128) {p q c b : Bool} (hp : bitF x k = p) (hq : bitF y k = q) (hc : cy x y k = c) (hb : b = (p ^^ (q ^^ c))) :
    b = bitF ((x + y) % M128) k := by
  rw [sum_bit x y h0 h h0' h' k hk, hp, hq, hc, hb]
theorem add_keep {x y : Int} {k : Nat} (hk : k < 128) {p q c b : Bool} (hp : bitF x k = p) (hq : bitF y k = q) (hc : cy x y k = c) (hb : b = Bool.atLeastTwo p q c) :
    Value.bool b = Value.bool (cy x y (k + 1)) := by
  rw [cy_succ x y k hk, hp, hq, hc, hb]
set_option maxRecDepth 100000 in
set_option maxHeartbeats 1000000 in
theorem add_any (x y : Int) (w : World) (h0 : 0 ≤ x) (h : x < M128) (h0' : 0 ≤ y) (h' : y < M128) :
    Calls Try.prog 58 #[.agg (bf (bitF x)), .agg (bf (bitF y))] w fun e w' => e = .returned (.tuple #[.agg (bf (bitF ((x + y) % M128))), .bool (decide (x + y < M128))]) ∧ Below w.heap.size w w' := by

  go_enter Try.func58, Try.ntmps58
  go_wp2
  rw [bf_zero]
  go_loopw [7, 8] (fun c i wr => ∃ k : Nat, k ≤ 128 ∧ c = .bool (cy x y k) ∧ i = .int .i64 k ∧ Row wr w.heap.size (bitF x) ∧ Row wr (w.heap.size + 1) (bitF y) ∧ Row wr (w.heap.size + 1 + 1) (fun _ => false) ∧ Row wr (w.heap.size + 1 + 1 + 1) (mix (fun _ => false) (bitF ((x + y) % M128)) k) ∧ Below w.heap.size w wr) (fun _ i _ => 128 - (intOf i).toNat)
  case atStart => exact ⟨0, by omega, by rw [cy_zero], rfl, (((Row.new w _).alloc _).alloc _).alloc _, ((Row.new' _ (by simp <;> omega)).alloc _).alloc _, (Row.new' _ (by simp <;> omega)).alloc _, (Row.new' _ (by simp <;> omega)).congr (fun j _ => (mix_zero (fun _ => false) _ j).symm), ((((Below.refl _ _).alloc (Nat.le_refl _) _).alloc (by simp <;> omega) _).alloc (by simp <;> omega) _).alloc (by simp <;> omega) _⟩
  case round =>
    obtain ⟨k, hk, rfl, rfl, hX, hY, hZ, hR, hB⟩ := hrel
    by_cases hlt : k < 128
    · have c1 := hX.cell (i := k) hlt
      have c2 := hY.cell (i := k) hlt
      have c3 := hR.cell (i := k) hlt
      have c4 := hR.free k
      have S : ∀ p q c b : Bool, bitF x k = p → bitF y k = q → cy x y k = c → b = (p ^^ (q ^^ c)) → b = bitF ((x + y) % M128) k := fun p q c b => add_put h0 h h0' h' hlt
      have K : ∀ p q c b : Bool, bitF x k = p → bitF y k = q → cy x y k = c → b = Bool.atLeastTwo p q c → Value.bool b = Value.bool (cy x y (k + 1)) := fun p q c b => add_keep hlt
      have S' := hide S
      have K' := hide K
      clear S K
      cases hp : bitF x k <;> cases hq : bitF y k <;> cases hc : cy x y k
      all_goals
        have Hp := hide hp
        have Hq := hide hq
        have Hc := hide hc
        rw [hp] at c1
        rw [hq] at c2
        clear hp hq hc
        go_wp2
        go_roundw
        case rel => exact ⟨k + 1, by omega, K'.out _ _ _ _ Hp.out Hq.out Hc.out rfl, by go_num, hX.setCell _ (by simp <;> omega), hY.setCell _ (by simp <;> omega), hZ.setCell _ (by simp <;> omega), (hR.set _ _).congr (fun j _ => mix_step (S'.out _ _ _ _ Hp.out Hq.out Hc.out rfl) j), hB.setCell (by simp <;> omega) _⟩
        case measure => simp [intOf] <;> omega
    · obtain rfl : k = 128 := by omega
      clear hlt
      have E := hide (fun j hj => mix_end (fun _ => false) (bitF ((x + y) % M128)) j hj)
      have C := hide (cy_end x y h0 h h0' h')
      have hR' := hide hR
      have hZ' := hide hZ
      clear hX hY hR hZ
      go_wp2_with (first | (refine load_row rfl (Operand.tmp 6) rfl rfl hR'.out ?_) | (refine store_row rfl (Operand.tmp 4) (Operand.tmp 34) rfl rfl rfl hZ'.out ?_))
      refine bodyPost_ret (results_row_tmp rfl _ _ rfl hZ'.out.setRow) rfl ⟨?_, below_setRow hB (by omega) _⟩
      have e2 : (!cy x y 128) = decide (x + y < M128) := by
        rw [C.out]
        by_cases c : M128 ≤ x + y
        · simp [c, Int.not_lt.2 c]
        · simp [c, Int.not_le.1 c]
      rw [← e2, ← bf_congr E.out]
      rfl

set_option maxRecDepth 100000 in
set_option maxHeartbeats 1000000 in
theorem not_any (x : Int) (w : World) (h0 : 0 ≤ x) (h : x < M128) :
    Calls Try.prog 118 #[.agg (bf (bitF x))] w fun e w' => e = .returned (.agg (bf (bitF (M128 - 1 - x)))) ∧ Below w.heap.size w w' := by

  go_enter Try.func118, Try.ntmps118
  go_wp2
  rw [bf_zero]
  go_loopw [3] (fun i wr => ∃ k : Nat, k ≤ 128 ∧ i = .int .i64 k ∧ Row wr w.heap.size (mix (bitF x) (fun j => !bitF x j) k) ∧ Row wr (w.heap.size + 1) (fun _ => false) ∧ Below w.heap.size w wr) (fun i _ => 128 - (intOf i).toNat)
  case atStart => exact ⟨0, by omega, rfl, ((Row.new w _).alloc _).congr (fun j _ => (mix_zero _ _ j).symm), Row.new' _ (by simp <;> omega), ((Below.refl _ _).alloc (Nat.le_refl _) _).alloc (by simp <;> omega) _⟩
  case round =>
    obtain ⟨k, hk, rfl, hX, hZ, hB⟩ := hrel
    by_cases hlt : k < 128
    · have c1 := hX.cell (i := k) hlt
      have c2 := hX.free k
      rw [mix_at] at c1
      go_wp2
      go_roundw
      case rel => exact ⟨k + 1, by omega, by go_num, (hX.set _ _).congr (fun j _ => mix_step rfl j), hZ.setCell _ (by simp <;> omega), hB.setCell (by simp <;> omega) _⟩
      case measure => simp [intOf] <;> omega
    · obtain rfl : k = 128 := by omega
      clear hlt
      have E := hide (fun j hj => mix_end (bitF x) (fun j => !bitF x j) j hj)
      have N := hide (not_bit x h0 h)
      have hX' := hide hX
      have hZ' := hide hZ
      clear hX hZ
      go_wp2_with (first | (refine load_row rfl (Operand.tmp 1) rfl rfl hX'.out ?_) | (refine store_row rfl (Operand.tmp 2) (Operand.tmp 14) rfl rfl rfl hZ'.out ?_))
      refine bodyPost_ret (results_row rfl _ _ rfl hZ'.out.setRow) rfl ⟨?_, below_setRow hB (by omega) _⟩
      rw [bf_congr (f := mix (bitF x) (fun j => !bitF x j) 128) (g := bitF (M128 - 1 - x)) (fun j hj => (E.out j hj).trans (N.out j hj).symm)]

/-- Which of two is above. -/
def cmpV (x y : Int) : Int := if x < y then -1 else if y < x then 1 else 0
theorem cmp_at {x y : Int} (h0 : 0 ≤ x) (h : x < M128) (h0' : 0 ≤ y) (h' : y < M128) {k : Nat} (hu : ∀ j, k < j → j < 128 → bitF x j = bitF y j) (hx : bitF x k = false) (hy : bitF y k = true) : x < y := by
  have : x.toNat < y.toNat := lt_of_bit hx hy fun j hj => by
    by_cases hj2 : j < 128
    · exact hu j hj hj2
    · have a := bitF_high x h0 h j (by omega)
      have b := bitF_high y h0' h' j (by omega)
      unfold bitF at a b
      rw [a, b]
  omega
set_option maxRecDepth 100000 in
set_option maxHeartbeats 1000000 in
theorem cmp_any (x y : Int) (w : World) (h0 : 0 ≤ x) (h : x < M128) (h0' : 0 ≤ y) (h' : y < M128) :
    Calls Try.prog 62 #[.agg (bf (bitF x)), .agg (bf (bitF y))] w fun e w' => e = .returned (.int .i64 (cmpV x y)) ∧ Below w.heap.size w w' := by

  go_enter Try.func62, Try.ntmps62
  go_wp2
  go_loopw [5] (fun i wr => ∃ k : Nat, k ≤ 128 ∧ i = .int .i64 ((k : Int) - 1) ∧ Row wr w.heap.size (bitF x) ∧ Row wr (w.heap.size + 1) (bitF y) ∧ (∀ j, k ≤ j → j < 128 → bitF x j = bitF y j) ∧ Below w.heap.size w wr) (fun i _ => (intOf i + 1).toNat)
  case atStart => exact ⟨128, by omega, rfl, (Row.new w _).alloc _, Row.new' _ (by simp <;> omega), by omega, ((Below.refl _ _).alloc (Nat.le_refl _) _).alloc (by simp <;> omega) _⟩
  case round =>
    obtain ⟨k, hk, rfl, hX, hY, hU, hB⟩ := hrel
    have hX' := hide hX
    have hY' := hide hY
    have hU' := hide hU
    clear hX hY hU
    cases k with
    | zero =>
      obtain rfl : x = y := bitF_ext h0 h0' h h' (fun j hj => hU'.out j (by omega) hj)
      go_wp2
      go_ret
      exact ⟨by simp [cmpV], hB⟩
    | succ k =>
      have c1 := hX'.out.cell (i := k) (by omega)
      have c2 := hY'.out.cell (i := k) (by omega)
      rw [show (((k + 1 : Nat) : Int) - 1) = (k : Int) by omega]
      cases hp : bitF x k <;> cases hq : bitF y k
      all_goals
        have Hp := hide hp
        have Hq := hide hq
        rw [hp] at c1
        rw [hq] at c2
        clear hp hq
        go_wp2
        go_quiet (fail)
        go_wp2
      · go_roundw
        case rel => exact ⟨k, by omega, rfl, hX'.out.drewN _, hY'.out.drewN _, fun j h1 h2 => by
          by_cases e : j = k
          · rw [e, Hp.out, Hq.out]
          · exact hU'.out j (by omega) h2, below_drewN hB _⟩
        case measure => simp [intOf] <;> omega
      · go_ret
        have hlt := cmp_at h0 h h0' h' (fun j h1 h2 => hU'.out j (by omega) h2) Hp.out Hq.out
        exact ⟨by simp [cmpV, hlt], below_drewN hB _⟩
      · go_ret
        have hlt := cmp_at h0' h' h0 h (fun j h1 h2 => (hU'.out j (by omega) h2).symm) Hq.out Hp.out
        exact ⟨by simp [cmpV, hlt, Int.not_lt.2 (Int.le_of_lt hlt)], below_drewN hB _⟩
      · go_roundw
        case rel => exact ⟨k, by omega, rfl, hX'.out.drewN _, hY'.out.drewN _, fun j h1 h2 => by
          by_cases e : j = k
          · rw [e, Hp.out, Hq.out]
          · exact hU'.out j (by omega) h2, below_drewN hB _⟩
        case measure => simp [intOf] <;> omega
end Go.Proofs.Ytadilccdipcmnaa
