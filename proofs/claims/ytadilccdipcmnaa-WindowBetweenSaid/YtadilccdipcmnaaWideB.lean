/- The program's numbers of 128 bits: what Left, Right, length and Len come to. Arguments: words from 0 to 2^64 - 1, any int to move by. -/
import Derived.Test.YtadilccdipcmnaaWideA
namespace Go.Proofs.Ytadilccdipcmnaa
open Go Go.RowKit

theorem wv_bd {h l : Int} (hh : 0 ≤ h) (hl : 0 ≤ l) (hh2 : h < M64) (hl2 : l < M64) : 0 ≤ wv h l ∧ wv h l < M128 := by
  rw [M64_eq] at *
  rw [M128_eq, wv, M64_eq]
  omega
theorem wv_hi {h l : Int} (hl : 0 ≤ l) (hl2 : l < M64) : wv h l / M64 = h := by
  rw [M64_eq] at *
  rw [wv, M64_eq]
  omega
theorem wv_lo {h l : Int} (hl : 0 ≤ l) (hl2 : l < M64) : wv h l % M64 = l := by
  rw [M64_eq] at *
  rw [wv, M64_eq]
  omega
theorem wv_halves (x : Int) : wv (x / M64) (x % M64) = x := by
  rw [wv, M64_eq]
  omega
/-- Moved up by less than a word: m bits, j = 64 - m. -/
theorem left_mid (h l : Nat) (m j : Nat) (hmj : m + j = 64) (hl : l < 2 ^ 64) :
    bits .or .u64 (IntKind.u64.wrap ((h : Int) * 2 ^ m)) ((l : Int) / 2 ^ j) = (wv h l * 2 ^ m % M128) / M64 ∧ IntKind.u64.wrap ((l : Int) * 2 ^ m) = (wv h l * 2 ^ m % M128) % M64 := by
  have hpq : 2 ^ m * 2 ^ j = 2 ^ 64 := by rw [← Nat.pow_add, hmj]
  have hp : 0 < 2 ^ m := Nat.two_pow_pos m
  have hq : 0 < 2 ^ j := Nat.two_pow_pos j
  have e1 : IntKind.u64.wrap ((h : Int) * 2 ^ m) = ((h * 2 ^ m % 2 ^ 64 : Nat) : Int) := by
    rw [IntKind.wrap_u64]
    simp
  have e2 : ((l : Int) / 2 ^ j) = ((l / 2 ^ j : Nat) : Int) := by simp
  have e3 : IntKind.u64.wrap ((l : Int) * 2 ^ m) = ((l * 2 ^ m % 2 ^ 64 : Nat) : Int) := by
    rw [IntKind.wrap_u64]
    simp
  have e4 : wv (h : Int) (l : Int) * 2 ^ m % M128 = (((h * 2 ^ 64 + l) * 2 ^ m % 2 ^ 128 : Nat) : Int) := by
    rw [wv, M64_eq, M128_nat]
    simp
  have hc : l / 2 ^ j < 2 ^ m := by
    rw [Nat.div_lt_iff_lt_mul hq, hpq]
    exact hl
  have hu : h * 2 ^ m % 2 ^ 64 = h % 2 ^ j * 2 ^ m := by rw [← hpq, Nat.mul_comm h, Nat.mul_mod_mul_left, Nat.mul_comm]
  have hlow : l * 2 ^ m / 2 ^ 64 = l / 2 ^ j := by rw [← hpq, Nat.mul_comm l, Nat.mul_div_mul_left _ _ hp]
  have hsum : (h * 2 ^ 64 + l) * 2 ^ m = h * 2 ^ m * 2 ^ 64 + l * 2 ^ m := by
    rw [Nat.add_mul, Nat.mul_assoc, Nat.mul_assoc, Nat.mul_comm (2 ^ 64)]
  have hfit : h % 2 ^ j * 2 ^ m + 2 ^ m ≤ 2 ^ 64 := by
    have := Nat.mod_lt h hq
    have h2 : (h % 2 ^ j + 1) * 2 ^ m ≤ 2 ^ j * 2 ^ m := Nat.mul_le_mul_right _ this
    rw [Nat.add_mul, Nat.one_mul, Nat.mul_comm (2 ^ j), hpq] at h2
    exact h2
  rw [e1, e2, e3, e4, hsum]
  rw [u64_or_nat _ _ (by omega) (by omega), nat_join m _ _ (by rw [hu]; exact Nat.mul_mod_left _ _) hc]
  rw [M64_eq]
  generalize h * 2 ^ m = u at *
  generalize l * 2 ^ m = v at *
  generalize l / 2 ^ j = c at *
  generalize h % 2 ^ j * 2 ^ m = u' at *
  omega
theorem left_big (l : Nat) (h : Int) (m : Nat) (hh : 0 ≤ h) :
    IntKind.u64.wrap ((l : Int) * 2 ^ m) = (wv h l * 2 ^ (m + 64) % M128) / M64 ∧ 0 = (wv h l * 2 ^ (m + 64) % M128) % M64 := by
  obtain ⟨h, rfl⟩ := Int.eq_ofNat_of_zero_le hh
  have e3 : IntKind.u64.wrap ((l : Int) * 2 ^ m) = ((l * 2 ^ m % 2 ^ 64 : Nat) : Int) := by
    rw [IntKind.wrap_u64]
    simp
  have e4 : wv (h : Int) (l : Int) * 2 ^ (m + 64) % M128 = (((h * 2 ^ 64 + l) * 2 ^ (m + 64) % 2 ^ 128 : Nat) : Int) := by
    rw [wv, M64_eq, M128_nat]
    simp
  have hsum : (h * 2 ^ 64 + l) * 2 ^ (m + 64) = h * 2 ^ m * 2 ^ 128 + l * 2 ^ m * 2 ^ 64 := by
    rw [show 2 ^ (m + 64) = 2 ^ m * 2 ^ 64 from Nat.pow_add 2 m 64]
    generalize 2 ^ m = p
    rw [Nat.add_mul, Nat.mul_mul_mul_comm, ← Nat.mul_assoc l]
  rw [e3, e4, hsum, M64_eq]
  generalize h * 2 ^ m = u at *
  generalize l * 2 ^ m = v at *
  omega
theorem lft_zero {x n : Int} (h0 : 0 ≤ x) (hx : x < M128) (h : n ≤ 0) : lft x n = x := by
  unfold lft
  by_cases h1 : n < 0
  · rw [if_pos h1]
  · obtain rfl : n = 0 := by omega
    rw [if_neg h1, if_neg (by omega)]
    simp only [Int.toNat_zero, Int.pow_zero, Int.mul_one]
    exact Int.emod_eq_of_lt h0 hx
theorem rgt_zero {x n : Int} (h : n ≤ 0) : rgt x n = x := by
  unfold rgt
  by_cases h1 : n < 0
  · rw [if_pos h1]
  · obtain rfl : n = 0 := by omega
    rw [if_neg h1, if_neg (by omega)]
    simp
theorem lft_nat {x : Int} {n : Nat} (h : n < 128) : lft x n = x * 2 ^ n % M128 := by
  unfold lft
  rw [if_neg (by omega), if_neg (by omega), Int.toNat_natCast]
theorem rgt_nat {x : Int} {n : Nat} (h : n < 128) : rgt x n = x / 2 ^ n := by
  unfold rgt
  rw [if_neg (by omega), if_neg (by omega), Int.toNat_natCast]
set_option maxRecDepth 100000 in
set_option maxHeartbeats 2000000 in
theorem wleft_any (h l n : Int) (w : World) (hh : 0 ≤ h) (hl : 0 ≤ l) (hh2 : h < M64) (hl2 : l < M64) :
    Calls Try.prog 28 #[.agg #[.int .u64 h, .int .u64 l], .int .i64 n] w fun e w' => e = .returned (.agg #[.int .u64 (lft (wv h l) n / M64), .int .u64 (lft (wv h l) n % M64)]) ∧ Below w.heap.size w w' := by
  have B0 : ∀ o1 o2 : Obj, Below w.heap.size w ((w.alloc o1).alloc o2) := fun o1 o2 => ((Below.refl _ _).alloc (Nat.le_refl _) _).alloc (by simp) _
  have hB0 := hide B0
  clear B0
  by_cases h0 : n ≤ 0
  · have e := hide (lft_zero (wv_bd hh hl hh2 hl2).1 (wv_bd hh hl hh2 hl2).2 h0)
    go_enter Try.func28, Try.ntmps28
    go_wp2
    exact bodyPost_ret (results_two rfl _ _ rfl (Two.new' _ _ (by simp))) rfl ⟨ret_agg (by rw [e.out, wv_hi hl hl2]) (by rw [e.out, wv_lo hl hl2]), hB0.out _ _⟩
  · by_cases h1 : 128 ≤ n
    · have e := hide (lft_far (x := wv h l) h1)
      go_enter Try.func28, Try.ntmps28
      go_wp2
      exact bodyPost_ret (results_two rfl _ _ rfl (Two.new' _ _ (by simp))) rfl ⟨ret_agg (by rw [e.out]; rfl) (by rw [e.out]; rfl), hB0.out _ _⟩
    · obtain ⟨l', rfl⟩ := Int.eq_ofNat_of_zero_le hl
      by_cases h2 : 64 ≤ n
      · obtain ⟨m, rfl⟩ : ∃ m : Nat, n = ((m + 64 : Nat) : Int) := ⟨(n - 64).toNat, by omega⟩
        have e := hide (left_big l' h m hh)
        have e2 := hide (lft_nat (x := wv h l') (n := m + 64) (by omega))
        rw [show ((m + 64 : Nat) : Int) = (m : Int) + 64 by omega] at *
        go_enter Try.func28, Try.ntmps28
        go_wp2
        exact bodyPost_ret (results_two rfl _ _ rfl (Two.new' _ _ (by simp))) rfl ⟨ret_agg (by rw [e2.out]; exact e.out.1) (by rw [e2.out]; exact e.out.2), hB0.out _ _⟩
      · obtain ⟨m, rfl⟩ : ∃ m : Nat, n = (m : Int) := ⟨n.toNat, by omega⟩
        obtain ⟨h', rfl⟩ := Int.eq_ofNat_of_zero_le hh
        obtain ⟨j, hj⟩ : ∃ j : Nat, m + j = 64 := ⟨64 - m, by omega⟩
        have hj1 : (64 : Int) - m = j := by omega
        have hj2 : (j : Int) < 64 := by omega
        have e := hide (left_mid h' l' m j hj (by rw [M64_eq] at hl2; omega))
        have e2 := hide (lft_nat (x := wv h' l') (n := m) (by omega))
        have Hj := hide hj1
        have Hj2 := hide hj2
        clear hj hj1 hj2 hh hl hh2 hl2
        go_enter Try.func28, Try.ntmps28
        go_wp2
        have tA : Two ((w.alloc (Obj.cells #[Value.int IntKind.u64 h', Value.int IntKind.u64 l'] 25)).alloc (Obj.cells #[Value.int IntKind.u64 0, Value.int IntKind.u64 0] 25)) w.heap.size (.int .u64 h') (.int .u64 l') := (Two.new w _ _).alloc _
        have tR : Two ((w.alloc (Obj.cells #[Value.int IntKind.u64 h', Value.int IntKind.u64 l'] 25)).alloc (Obj.cells #[Value.int IntKind.u64 0, Value.int IntKind.u64 0] 25)) (w.heap.size + 1) (.int .u64 0) (.int .u64 0) := Two.new' _ _ (by simp)
        refine wp_region_drawn (fun g w' => Two w' w.heap.size (.int .u64 h') (.int .u64 l') ∧ (∃ p q, Two w' (w.heap.size + 1) p q ∧ (g 15 = true → p = .int .u64 (bits .or .u64 (IntKind.u64.wrap (h' * 2 ^ m)) (l' / 2 ^ j)) ∧ q = .int .u64 (IntKind.u64.wrap (l' * 2 ^ m)))) ∧ Below w.heap.size w w') mixed (by kernel_rfl) ⟨tA, ⟨_, _, tR, fun h => by cases h⟩, (hB0.out _ _).drew⟩ ?_
        clear tA tR
        refine lex_val (v := .pointer (some ⟨w.heap.size, 0, none⟩)) rfl (fun g w' hc => hc) (fun g w' _ hc => by go_simp) ?_
        refine lex_val (v := .int .u64 h') rfl (fun g w' hc => hc) (fun g w' _ hc => by have c0 := hc.1.c0; clear hc; go_simp) ?_
        refine lex_val rfl (fun g w' hc => hc) (fun g w' _ hc => exec_move _ rfl rfl) ?_
        refine lex_val (v := .int .u64 (IntKind.u64.wrap (h' * 2 ^ m))) rfl (fun g w' hc => hc) (fun g w' _ hc => by clear hc; go_simp) ?_
        simp only [Act.put, List.setIfInBounds_toArray, List.set_cons_zero, List.set_cons_succ]
        refine lex_val (v := .pointer (some ⟨w.heap.size, 1, none⟩)) rfl (fun g w' hc => hc) (fun g w' _ hc => by clear hc; go_simp) ?_
        refine lex_val (v := .int .u64 l') rfl (fun g w' hc => hc) (fun g w' _ hc => by have c1 := hc.1.c1; clear hc; go_simp) ?_
        refine lex_val rfl (fun g w' hc => hc) (fun g w' _ hc => exec_move _ rfl rfl) ?_
        refine lex_val (v := .int .i64 j) rfl (fun g w' hc => hc) (fun g w' _ hc => by clear hc; have hj2 := Hj2.out; go_simp; rw [Hj.out, IntWalk.i64_in (j : Int) (by omega)]) ?_
        simp only [Act.put, List.setIfInBounds_toArray, List.set_cons_zero, List.set_cons_succ]
        refine lex_val (v := .int .u64 (l' / 2 ^ j)) rfl (fun g w' hc => hc) (fun g w' _ hc => by have hj2 := Hj2.out; clear hc; go_simp) ?_
        refine lex_val (v := .int .u64 (bits .or .u64 (IntKind.u64.wrap (h' * 2 ^ m)) (l' / 2 ^ j))) rfl (fun g w' hc => hc) (fun g w' _ hc => by clear hc; go_simp) ?_
        simp only [Act.put, List.setIfInBounds_toArray, List.set_cons_zero, List.set_cons_succ]
        refine lex_val (v := .pointer (some ⟨w.heap.size, 1, none⟩)) rfl (fun g w' hc => hc) (fun g w' _ hc => by clear hc; go_simp) ?_
        refine lex_val (v := .int .u64 l') rfl (fun g w' hc => hc) (fun g w' _ hc => by have c1 := hc.1.c1; clear hc; go_simp) ?_
        refine lex_val rfl (fun g w' hc => hc) (fun g w' _ hc => exec_move _ rfl rfl) ?_
        refine lex_val (v := .int .u64 (IntKind.u64.wrap (l' * 2 ^ m))) rfl (fun g w' hc => hc) (fun g w' _ hc => by clear hc; go_simp) ?_
        simp only [Act.put, List.setIfInBounds_toArray, List.set_cons_zero, List.set_cons_succ]
        refine lex_val (v := .agg #[.int .u64 (bits .or .u64 (IntKind.u64.wrap (h' * 2 ^ m)) (l' / 2 ^ j)), .int .u64 (IntKind.u64.wrap (l' * 2 ^ m))]) rfl (fun g w' hc => hc) (fun g w' _ hc => by clear hc; go_simp) ?_
        simp only [Act.put, List.setIfInBounds_toArray, List.set_cons_zero, List.set_cons_succ]
        refine lex_put rfl (fun g w' _ hc => ?_) ?_
        · obtain ⟨p, q, hf, hg⟩ := hc.2.1
          exact ⟨_, exec_store_two _ _ rfl rfl rfl rfl rfl hf, hc.1.setRow_other _ (by omega), ⟨_, _, hf.setRow, fun _ => ⟨rfl, rfl⟩⟩, below_setRow hc.2.2 (by omega) _⟩
        refine lex_nil ?_
        rintro w' ⟨-, ⟨p, q, hf, hg⟩, hB⟩
        obtain ⟨rfl, rfl⟩ := hg rfl
        clear hg
        go_wp2
        exact bodyPost_ret (results_two rfl _ _ rfl hf) rfl ⟨ret_agg (by rw [e2.out]; exact e.out.1) (by rw [e2.out]; exact e.out.2), hB⟩
/-- Moved down by less than a word: m bits, j = 64 - m. -/
theorem right_mid (h l : Nat) (m j : Nat) (hmj : m + j = 64) (hl : l < 2 ^ 64) :
    ((h : Int) / 2 ^ m) = (wv h l / 2 ^ m) / M64 ∧ bits .or .u64 ((l : Int) / 2 ^ m) (IntKind.u64.wrap ((h : Int) * 2 ^ j)) = (wv h l / 2 ^ m) % M64 := by
  have hpq : 2 ^ m * 2 ^ j = 2 ^ 64 := by rw [← Nat.pow_add, hmj]
  have hp : 0 < 2 ^ m := Nat.two_pow_pos m
  have hq : 0 < 2 ^ j := Nat.two_pow_pos j
  have e1 : IntKind.u64.wrap ((h : Int) * 2 ^ j) = ((h * 2 ^ j % 2 ^ 64 : Nat) : Int) := by
    rw [IntKind.wrap_u64]
    simp
  have e2 : ((l : Int) / 2 ^ m) = ((l / 2 ^ m : Nat) : Int) := by simp
  have e3 : ((h : Int) / 2 ^ m) = ((h / 2 ^ m : Nat) : Int) := by simp
  have e4 : wv (h : Int) (l : Int) / 2 ^ m = (((h * 2 ^ 64 + l) / 2 ^ m : Nat) : Int) := by
    rw [wv, M64_eq]
    simp
  have hc : l / 2 ^ m < 2 ^ j := by
    rw [Nat.div_lt_iff_lt_mul hp, Nat.mul_comm, hpq]
    exact hl
  have hu : h * 2 ^ j % 2 ^ 64 = h % 2 ^ m * 2 ^ j := by rw [← hpq, Nat.mul_comm h, Nat.mul_comm (2 ^ m), Nat.mul_mod_mul_left, Nat.mul_comm]
  have hv : h * 2 ^ j / 2 ^ 64 = h / 2 ^ m := by rw [← hpq, Nat.mul_comm h, Nat.mul_comm (2 ^ m), Nat.mul_div_mul_left _ _ hq]
  have hsum : (h * 2 ^ 64 + l) / 2 ^ m = h * 2 ^ j + l / 2 ^ m := by
    rw [← hpq, Nat.mul_comm (2 ^ m), ← Nat.mul_assoc, Nat.mul_comm _ (2 ^ m), Nat.mul_add_div hp]
  have hfit : h % 2 ^ m * 2 ^ j + 2 ^ j ≤ 2 ^ 64 := by
    have := Nat.mod_lt h hp
    have h2 : (h % 2 ^ m + 1) * 2 ^ j ≤ 2 ^ m * 2 ^ j := Nat.mul_le_mul_right _ this
    rw [Nat.add_mul, Nat.one_mul, hpq] at h2
    exact h2
  rw [e1, e2, e3, e4, hsum]
  rw [u64_or_nat _ _ (by omega) (by omega), Nat.or_comm, nat_join j _ _ (by rw [hu]; exact Nat.mul_mod_left _ _) hc]
  rw [M64_eq]
  generalize h * 2 ^ j = u at *
  generalize l / 2 ^ m = c at *
  generalize h / 2 ^ m = d at *
  generalize h % 2 ^ m * 2 ^ j = u' at *
  omega
theorem right_big (l : Nat) (h : Int) (m : Nat) (hh : 0 ≤ h) (hh2 : h < M64) (hl : l < 2 ^ 64) :
    0 = (wv h l / 2 ^ (m + 64)) / M64 ∧ h / 2 ^ m = (wv h l / 2 ^ (m + 64)) % M64 := by
  obtain ⟨h, rfl⟩ := Int.eq_ofNat_of_zero_le hh
  have e3 : ((h : Int) / 2 ^ m) = ((h / 2 ^ m : Nat) : Int) := by simp
  have e4 : wv (h : Int) (l : Int) / 2 ^ (m + 64) = (((h * 2 ^ 64 + l) / 2 ^ (m + 64) : Nat) : Int) := by
    rw [wv, M64_eq]
    simp
  have hsum : (h * 2 ^ 64 + l) / 2 ^ (m + 64) = h / 2 ^ m := by
    rw [show 2 ^ (m + 64) = 2 ^ 64 * 2 ^ m by rw [Nat.pow_add, Nat.mul_comm], ← Nat.div_div_eq_div_mul, show (h * 2 ^ 64 + l) / 2 ^ 64 = h by omega]
  have hd := Nat.div_le_self h (2 ^ m)
  rw [M64_eq] at *
  rw [e3, e4, hsum]
  clear e3 e4 hsum
  generalize h / 2 ^ m = d at *
  omega
set_option maxRecDepth 100000 in
set_option maxHeartbeats 2000000 in
theorem wright_any (h l n : Int) (w : World) (hh : 0 ≤ h) (hl : 0 ≤ l) (hh2 : h < M64) (hl2 : l < M64) :
    Calls Try.prog 30 #[.agg #[.int .u64 h, .int .u64 l], .int .i64 n] w fun e w' => e = .returned (.agg #[.int .u64 (rgt (wv h l) n / M64), .int .u64 (rgt (wv h l) n % M64)]) ∧ Below w.heap.size w w' := by
  have B0 : ∀ o1 o2 : Obj, Below w.heap.size w ((w.alloc o1).alloc o2) := fun o1 o2 => ((Below.refl _ _).alloc (Nat.le_refl _) _).alloc (by simp) _
  have hB0 := hide B0
  clear B0
  by_cases h0 : n ≤ 0
  · have e := hide (rgt_zero (x := wv h l) h0)
    go_enter Try.func30, Try.ntmps30
    go_wp2
    exact bodyPost_ret (results_two rfl _ _ rfl (Two.new' _ _ (by simp))) rfl ⟨ret_agg (by rw [e.out, wv_hi hl hl2]) (by rw [e.out, wv_lo hl hl2]), hB0.out _ _⟩
  · by_cases h1 : 128 ≤ n
    · have e := hide (rgt_far (x := wv h l) h1)
      go_enter Try.func30, Try.ntmps30
      go_wp2
      exact bodyPost_ret (results_two rfl _ _ rfl (Two.new' _ _ (by simp))) rfl ⟨ret_agg (by rw [e.out]; rfl) (by rw [e.out]; rfl), hB0.out _ _⟩
    · obtain ⟨l', rfl⟩ := Int.eq_ofNat_of_zero_le hl
      by_cases h2 : 64 ≤ n
      · obtain ⟨m, rfl⟩ : ∃ m : Nat, n = ((m + 64 : Nat) : Int) := ⟨(n - 64).toNat, by omega⟩
        have e := hide (right_big l' h m hh hh2 (by rw [M64_eq] at hl2; omega))
        have e2 := hide (rgt_nat (x := wv h l') (n := m + 64) (by omega))
        rw [show ((m + 64 : Nat) : Int) = (m : Int) + 64 by omega] at *
        go_enter Try.func30, Try.ntmps30
        go_wp2
        exact bodyPost_ret (results_two rfl _ _ rfl (Two.new' _ _ (by simp))) rfl ⟨ret_agg (by rw [e2.out]; exact e.out.1) (by rw [e2.out]; exact e.out.2), hB0.out _ _⟩
      · obtain ⟨m, rfl⟩ : ∃ m : Nat, n = (m : Int) := ⟨n.toNat, by omega⟩
        obtain ⟨h', rfl⟩ := Int.eq_ofNat_of_zero_le hh
        obtain ⟨j, hj⟩ : ∃ j : Nat, m + j = 64 := ⟨64 - m, by omega⟩
        have hj1 : (64 : Int) - m = j := by omega
        have hj2 : (j : Int) < 64 := by omega
        have e := hide (right_mid h' l' m j hj (by rw [M64_eq] at hl2; omega))
        have e2 := hide (rgt_nat (x := wv h' l') (n := m) (by omega))
        have Hj := hide hj1
        have Hj2 := hide hj2
        clear hj hj1 hj2 hh hl hh2 hl2
        go_enter Try.func30, Try.ntmps30
        go_wp2
        have tA : Two ((w.alloc (Obj.cells #[Value.int IntKind.u64 h', Value.int IntKind.u64 l'] 25)).alloc (Obj.cells #[Value.int IntKind.u64 0, Value.int IntKind.u64 0] 25)) w.heap.size (.int .u64 h') (.int .u64 l') := (Two.new w _ _).alloc _
        have tR : Two ((w.alloc (Obj.cells #[Value.int IntKind.u64 h', Value.int IntKind.u64 l'] 25)).alloc (Obj.cells #[Value.int IntKind.u64 0, Value.int IntKind.u64 0] 25)) (w.heap.size + 1) (.int .u64 0) (.int .u64 0) := Two.new' _ _ (by simp)
        refine wp_region_drawn (fun g w' => Two w' w.heap.size (.int .u64 h') (.int .u64 l') ∧ (∃ p q, Two w' (w.heap.size + 1) p q ∧ (g 15 = true → p = .int .u64 (h' / 2 ^ m) ∧ q = .int .u64 (bits .or .u64 (l' / 2 ^ m) (IntKind.u64.wrap (h' * 2 ^ j))))) ∧ Below w.heap.size w w') mixed (by kernel_rfl) ⟨tA, ⟨_, _, tR, fun h => by cases h⟩, (hB0.out _ _).drew⟩ ?_
        clear tA tR
        refine lex_val (v := .pointer (some ⟨w.heap.size, 0, none⟩)) rfl (fun g w' hc => hc) (fun g w' _ hc => by go_simp) ?_
        refine lex_val (v := .int .u64 h') rfl (fun g w' hc => hc) (fun g w' _ hc => by have c0 := hc.1.c0; clear hc; go_simp) ?_
        refine lex_val rfl (fun g w' hc => hc) (fun g w' _ hc => exec_move _ rfl rfl) ?_
        refine lex_val (v := .int .u64 (h' / 2 ^ m)) rfl (fun g w' hc => hc) (fun g w' _ hc => by clear hc; go_simp) ?_
        simp only [Act.put, List.setIfInBounds_toArray, List.set_cons_zero, List.set_cons_succ]
        refine lex_val (v := .pointer (some ⟨w.heap.size, 1, none⟩)) rfl (fun g w' hc => hc) (fun g w' _ hc => by clear hc; go_simp) ?_
        refine lex_val (v := .int .u64 l') rfl (fun g w' hc => hc) (fun g w' _ hc => by have c1 := hc.1.c1; clear hc; go_simp) ?_
        refine lex_val rfl (fun g w' hc => hc) (fun g w' _ hc => exec_move _ rfl rfl) ?_
        refine lex_val (v := .int .u64 (l' / 2 ^ m)) rfl (fun g w' hc => hc) (fun g w' _ hc => by clear hc; go_simp) ?_
        simp only [Act.put, List.setIfInBounds_toArray, List.set_cons_zero, List.set_cons_succ]
        refine lex_val (v := .pointer (some ⟨w.heap.size, 0, none⟩)) rfl (fun g w' hc => hc) (fun g w' _ hc => by clear hc; go_simp) ?_
        refine lex_val (v := .int .u64 h') rfl (fun g w' hc => hc) (fun g w' _ hc => by have c0 := hc.1.c0; clear hc; go_simp) ?_
        refine lex_val rfl (fun g w' hc => hc) (fun g w' _ hc => exec_move _ rfl rfl) ?_
        refine lex_val (v := .int .i64 j) rfl (fun g w' hc => hc) (fun g w' _ hc => by clear hc; have hj2 := Hj2.out; go_simp; rw [Hj.out, IntWalk.i64_in (j : Int) (by omega)]) ?_
        simp only [Act.put, List.setIfInBounds_toArray, List.set_cons_zero, List.set_cons_succ]
        refine lex_val (v := .int .u64 (IntKind.u64.wrap (h' * 2 ^ j))) rfl (fun g w' hc => hc) (fun g w' _ hc => by have hj2 := Hj2.out; clear hc; go_simp) ?_
        refine lex_val (v := .int .u64 (bits .or .u64 (l' / 2 ^ m) (IntKind.u64.wrap (h' * 2 ^ j)))) rfl (fun g w' hc => hc) (fun g w' _ hc => by clear hc; go_simp) ?_
        simp only [Act.put, List.setIfInBounds_toArray, List.set_cons_zero, List.set_cons_succ]
        refine lex_val (v := .agg #[.int .u64 (h' / 2 ^ m), .int .u64 (bits .or .u64 (l' / 2 ^ m) (IntKind.u64.wrap (h' * 2 ^ j)))]) rfl (fun g w' hc => hc) (fun g w' _ hc => by clear hc; go_simp) ?_
        simp only [Act.put, List.setIfInBounds_toArray, List.set_cons_zero, List.set_cons_succ]
        refine lex_put rfl (fun g w' _ hc => ?_) ?_
        · obtain ⟨p, q, hf, hg⟩ := hc.2.1
          exact ⟨_, exec_store_two _ _ rfl rfl rfl rfl rfl hf, hc.1.setRow_other _ (by omega), ⟨_, _, hf.setRow, fun _ => ⟨rfl, rfl⟩⟩, below_setRow hc.2.2 (by omega) _⟩
        refine lex_nil ?_
        rintro w' ⟨-, ⟨p, q, hf, hg⟩, hB⟩
        obtain ⟨rfl, rfl⟩ := hg rfl
        clear hg
        go_wp2
        exact bodyPost_ret (results_two rfl _ _ rfl hf) rfl ⟨ret_agg (by rw [e2.out]; exact e.out.1) (by rw [e2.out]; exact e.out.2), hB⟩
/-! How many bits -/
theorem blen_half (n : Nat) (h : n ≠ 0) : blenN n = blenN (n / 2) + 1 := by
  unfold blenN
  rw [if_neg h]
  by_cases h2 : n / 2 = 0
  · obtain rfl : n = 1 := by omega
    rfl
  · rw [if_neg h2, Nat.log2_def n, if_pos (by omega)]
theorem blenN_zero : blenN 0 = 0 := rfl
set_option maxHeartbeats 1000000 in
theorem length_any (n : Int) (w : World) (h0 : 0 ≤ n) (h : n < M64) :
    Calls Try.prog 99 #[.int .u64 n] w fun e w' => e = .returned (.int .i64 (blen n)) ∧ w' = w := by
  have hb := hide (show blenN n.toNat ≤ 64 from blenN_le _ _ (by rw [M64_eq] at h; omega))
  obtain ⟨m, rfl⟩ := Int.eq_ofNat_of_zero_le h0
  unfold blen
  rw [Int.toNat_natCast] at *
  clear h0 h
  go_enter Try.func99, Try.ntmps99
  go_wp2
  go_loop [0, 2] (fun x b => ∃ p k : Nat, x = .int .u64 p ∧ b = .int .i64 k ∧ k + blenN p = blenN m) (fun x _ => (intOf x).toNat)
  case atStart => exact ⟨m, 0, rfl, rfl, by omega⟩
  case round =>
    obtain ⟨p, k, rfl, rfl, hk⟩ := hrel
    have Hk := hide hk
    have hk2 : k ≤ 64 := by have := hb.out; omega
    clear hk
    by_cases hp : p = 0
    · subst hp
      go_wp2
      go_ret
      refine ⟨ret_int ?_, rfl⟩
      have := Hk.out
      rw [blenN_zero] at this
      omega
    · have e : ((p : Int) != 0) = true := by simp; omega
      have Hp := hide hp
      clear hp
      have hk3 : (k : Int) ≤ 64 := by omega
      go_wp2
      go_round
      case rel => exact ⟨p / 2, k + 1, by simp, by simp, by rw [← Hk.out, blen_half p Hp.out]; omega⟩
      case measure => simp [intOf]; have := Hp.out; omega
theorem blen_hi (h l : Int) (hh : 0 < h) (hl : 0 ≤ l) (hl2 : l < M64) : blen (wv h l) = 64 + blen h := by
  have h64 : ∀ k n : Nat, n ≠ 0 → ∀ l, l < 2 ^ k → blenN (n * 2 ^ k + l) = k + blenN n := by
    intro k
    induction k with
    | zero =>
      intro n hn l hl
      obtain rfl : l = 0 := by omega
      simp
    | succ k ih =>
      intro n hn l hl
      have hp : 0 < 2 ^ k := Nat.two_pow_pos k
      have e : (n * 2 ^ (k + 1) + l) / 2 = n * 2 ^ k + l / 2 := by
        rw [Nat.pow_succ, ← Nat.mul_assoc]
        omega
      have hne : n * 2 ^ (k + 1) ≠ 0 := Nat.mul_ne_zero hn (by omega)
      rw [blen_half _ (by omega), e, ih n hn (l / 2) (by rw [Nat.pow_succ] at hl; omega)]
      omega
  obtain ⟨a, rfl⟩ := Int.eq_ofNat_of_zero_le (Int.le_of_lt hh)
  obtain ⟨b, rfl⟩ := Int.eq_ofNat_of_zero_le hl
  unfold blen
  rw [M64_eq] at hl2
  rw [show (wv (a : Int) (b : Int)).toNat = a * 2 ^ 64 + b by rw [wv, M64_eq]; omega, Int.toNat_natCast, h64 64 a (by omega) b (by omega)]
  omega
theorem blen_bd (x : Int) (h0 : 0 ≤ x) (h : x < M64) : 0 ≤ blen x ∧ blen x ≤ 64 := by
  unfold blen
  have := blenN_le x.toNat 64 (by rw [M64_eq] at h; omega)
  omega
set_option maxRecDepth 100000 in
set_option maxHeartbeats 1000000 in
theorem wlen_any (h l : Int) (w : World) (hh : 0 ≤ h) (hl : 0 ≤ l) (hh2 : h < M64) (hl2 : l < M64) :
    Calls Try.prog 32 #[.agg #[.int .u64 h, .int .u64 l]] w fun e w' => e = .returned (.int .i64 (blen (wv h l))) ∧ Below w.heap.size w w' := by
  by_cases h0 : h = 0
  · subst h0
    rw [show wv 0 l = l by rw [wv]; omega]
    go_enter Try.func32, Try.ntmps32
    go_wp2_with (go_at_call 99; (with_reducible refine (length_any l _ hl hl2).mono ?_); rintro e w' ⟨rfl, rfl⟩)
    go_ret
    exact ⟨rfl, (Below.refl _ _).alloc (Nat.le_refl _) _⟩
  · have e := hide (blen_hi h l (by omega) hl hl2)
    have e1 : (h != 0) = true := by simpa using h0
    obtain ⟨b0, b1⟩ := blen_bd h hh hh2
    clear h0
    go_enter Try.func32, Try.ntmps32
    go_wp2_with (go_at_call 99; (with_reducible refine (length_any h _ hh hh2).mono ?_); rintro e w' ⟨rfl, rfl⟩)
    go_ret
    exact ⟨ret_int e.out.symm, (Below.refl _ _).alloc (Nat.le_refl _) _⟩
end Go.Proofs.Ytadilccdipcmnaa
