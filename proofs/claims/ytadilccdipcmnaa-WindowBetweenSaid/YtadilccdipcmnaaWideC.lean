/- The program's numbers of 128 bits: what Div comes to. Arguments: words from 0 to 2^64 - 1. -/
import Derived.Test.YtadilccdipcmnaaWideB
import Derived.Test.YtadilccdipcmnaaRefD
namespace Go.Proofs.Ytadilccdipcmnaa
open Go Go.RowKit
attribute [local go_sem] field_two0 field_two1

theorem Two.set2 {w : World} {b : Nat} {x y x' y' : Value} (h : Two w b x y) : Two ((w.setCell ⟨b, 0, none⟩ x').setCell ⟨b, 1, none⟩ y') b x' y' := by
  have h1 := heap_setCell_same w b 0 _ _ x' h
  have h2 := heap_setCell_same (w.setCell ⟨b, 0, none⟩ x') b 1 _ _ y' h1
  exact h2
theorem Two.setCell {w : World} {b : Nat} {x y : Value} (h : Two w b x y) {p : Addr} (v : Value) (hn : b ≠ p.block) : Two (w.setCell p v) b x y := by
  unfold Two
  rw [Below.heap_setCell w p v b hn]
  exact h
theorem below_put {w0 w : World} (h : Below w0.heap.size w0 w) {p : Addr} (hp : w0.heap.size ≤ p.block) (v : Value) (o : Obj) : Below w0.heap.size w0 ((w.setCell p v).alloc o) :=
  (h.setCell hp v).alloc (h.setCell hp v).size o
theorem results_two_tmp2 {fn : Func} {p t u : Tmp} {x y : Value} {g : Nat} (h : fn.results = #[.cell p 25, .tmp t, .tmp u]) (tmps : Array Value) (w : World) (hp : tmps.getD p undef = .pointer (some ⟨g, 0, none⟩)) (hg : Two w g x y) :
    (results fn tmps).run Try.prog w = .ok (.tuple #[.agg #[x, y], tmps.getD t undef, tmps.getD u undef]) w := by
  have hp' : tmps[p]?.getD undef = .pointer (some ⟨g, 0, none⟩) := by simpa using hp
  simp [results, h, hp', asAddr, run_two w g hg]
theorem ret_div {x y r x' y' r' : Int} {p : Bool} (h1 : x = x') (h2 : y = y') (h3 : r = r') : Ending.returned (.tuple #[.agg #[.int .u64 x, .int .u64 y], .int .u64 r, .bool p]) = .returned (.tuple #[.agg #[.int .u64 x', .int .u64 y'], .int .u64 r', .bool p]) := by
  rw [h1, h2, h3]

theorem or_halves (Q : Int) (k : Nat) (h0 : 0 ≤ Q) (h : Q * 2 ^ (k + 1) + 2 ^ k < M128) :
    bits .or .u64 (Q * 2 ^ (k + 1) / M64) (2 ^ k / M64) = (Q * 2 ^ (k + 1) + 2 ^ k) / M64 ∧ bits .or .u64 (Q * 2 ^ (k + 1) % M64) (2 ^ k % M64) = (Q * 2 ^ (k + 1) + 2 ^ k) % M64 := by
  obtain ⟨q, rfl⟩ := Int.eq_ofNat_of_zero_le h0
  have e1 : (q : Int) * 2 ^ (k + 1) = ((q * 2 ^ (k + 1) : Nat) : Int) := by simp
  have e2 : ((2 : Int) ^ k) = ((2 ^ k : Nat) : Int) := by simp
  have e3 := nat_join (k + 1) (q * 2 ^ (k + 1)) (2 ^ k) (Nat.mul_mod_left _ _) (Nat.pow_lt_pow_right (by decide) (by omega))
  have e4 := Nat.or_div_two_pow (a := q * 2 ^ (k + 1)) (b := 2 ^ k) (n := 64)
  have e5 := Nat.or_mod_two_pow (a := q * 2 ^ (k + 1)) (b := 2 ^ k) (n := 64)
  rw [e3] at e4 e5
  rw [M128_eq] at h
  rw [e1, e2] at h
  rw [e1, e2, M64_eq]
  generalize q * 2 ^ (k + 1) = u at *
  generalize 2 ^ k = v at *
  have f1 : ((u : Int) / 18446744073709551616) = ((u / 2 ^ 64 : Nat) : Int) := by omega
  have f2 : ((v : Int) / 18446744073709551616) = ((v / 2 ^ 64 : Nat) : Int) := by omega
  have f3 : ((u : Int) % 18446744073709551616) = ((u % 2 ^ 64 : Nat) : Int) := by omega
  have f4 : ((v : Int) % 18446744073709551616) = ((v % 2 ^ 64 : Nat) : Int) := by omega
  rw [f1, f2, f3, f4, u64_or_nat _ _ (by omega) (by omega), u64_or_nat _ _ (by omega) (by omega), ← e4, ← e5]
  omega
theorem low_bit (V : Int) (h0 : 0 ≤ V) (k : Nat) (hk : k < 128) : bits .and .u64 (rgt V k % M64) 1 = b2i (bitF V k) := by
  obtain ⟨n, rfl⟩ := Int.eq_ofNat_of_zero_le h0
  have e : rgt (n : Int) k % M64 = ((n / 2 ^ k % 2 ^ 64 : Nat) : Int) := by
    rw [rgt_nat hk, M64_eq]
    simp
  have h1 := u64_and_nat (n / 2 ^ k % 2 ^ 64) 1 (by omega) (by decide)
  rw [show ((1 : Nat) : Int) = 1 from rfl] at h1
  rw [e, h1, nat_mask1]
  unfold b2i bitF
  rw [Int.toNat_natCast, Nat.testBit_eq_decide_div_mod_eq]
  by_cases c : n / 2 ^ k % 2 = 1
  · simp only [c, decide_true, if_true]; omega
  · simp only [c, decide_false, Bool.false_eq_true, if_false]; omega
theorem shl_in (r b : Int) (h0 : 0 ≤ r) (h : r < M64) (hb : 0 ≤ b) (hb2 : b ≤ 1) : bits .or .u64 (IntKind.u64.wrap (r * 2)) b = if r < 9223372036854775808 then r * 2 + b else r * 2 + b - M64 := by
  obtain ⟨n, rfl⟩ := Int.eq_ofNat_of_zero_le h0
  obtain ⟨m, rfl⟩ := Int.eq_ofNat_of_zero_le hb
  rw [M64_eq] at *
  have e : IntKind.u64.wrap ((n : Int) * 2) = ((n * 2 % 2 ^ 64 : Nat) : Int) := by rw [IntKind.wrap_u64]; omega
  rw [e, u64_or_nat _ _ (by omega) (by omega), nat_join 1 _ _ (by omega) (by omega)]
  split <;> omega
theorem lft_unit (k : Nat) (hk : k < 128) : lft (wv 0 1) k = 2 ^ k := by
  rw [lft_nat hk, show wv 0 1 = 1 by decide, Int.one_mul, M128_nat]
  have e : ((2 : Int) ^ k) = ((2 ^ k : Nat) : Int) := by simp
  have hlt : 2 ^ k < 2 ^ 128 := Nat.pow_lt_pow_right (by decide) hk
  rw [e]
  generalize 2 ^ k = v at *
  omega

set_option maxRecDepth 100000 in
set_option maxHeartbeats 1000000 in
theorem wdiv_zero (h l : Int) (w : World) :
    Calls Try.prog 34 #[.agg #[.int .u64 h, .int .u64 l], .int .u64 0] w fun e w' => e = .returned (.tuple #[.agg #[.int .u64 0, .int .u64 0], .int .u64 0, .bool false]) ∧ Below w.heap.size w w' := by
  go_enter Try.func34, Try.ntmps34
  go_wp2
  go_step3
  go_wp2
  rw [Exit.noGoto_ret]
  exact bodyPost_ret (results_two_tmp2 rfl _ _ rfl (Two.new' _ _ (by simp))) rfl ⟨rfl, ((Below.refl _ _).alloc (Nat.le_refl _) _).alloc (by simp) _⟩

set_option maxRecDepth 100000 in
set_option maxHeartbeats 4000000 in
theorem wdiv_any (h l d : Int) (w : World) (hh : 0 ≤ h) (hl : 0 ≤ l) (hh2 : h < M64) (hl2 : l < M64) (hd : 0 < d) (hd2 : d < M64) :
    Calls Try.prog 34 #[.agg #[.int .u64 h, .int .u64 l], .int .u64 d] w fun e w' => e = .returned (.tuple #[.agg #[.int .u64 (wv h l / d / M64), .int .u64 (wv h l / d % M64)], .int .u64 (wv h l % d), .bool true]) ∧ Below w.heap.size w w' := by
  have e0 : (d == 0) = false := by simp; omega
  have hd0 : 0 ≤ d := by omega
  obtain ⟨hV0, hV1⟩ := wv_bd hh hl hh2 hl2
  have hn : blenN (wv h l).toNat ≤ 128 := blenN_le _ _ (by rw [M128_eq] at hV1; omega)
  have hz : wv h l / 2 ^ (blenN (wv h l).toNat) = 0 := by
    have := blenN_lt (wv h l).toNat
    refine Int.ediv_eq_zero_of_lt hV0 ?_
    have e : ((2 : Int) ^ (blenN (wv h l).toNat)) = ((2 ^ (blenN (wv h l).toNat) : Nat) : Int) := by simp
    rw [e]
    omega
  have Hz := hide hz
  have Hn := hide hn
  clear hz hn
  go_enter Try.func34, Try.ntmps34
  go_wp2
  go_step3
  go_wp2
  go_step3
  go_wp2_with (go_at_call 32; (with_reducible refine (wlen_any h l _ hh hl hh2 hl2).mono ?_))
  rintro e w1 ⟨rfl, hb1⟩
  have tA : Two w1 w.heap.size (.int .u64 h) (.int .u64 l) := ((Two.new w _ _).alloc _).below hb1 (by simp <;> omega)
  have tQ : Two w1 (w.heap.size + 1) (.int .u64 0) (.int .u64 0) := Two.below (Two.new' _ _ (by simp)) hb1 (by simp <;> omega)
  have hB1 : Below w.heap.size w w1 := (((Below.refl _ _).alloc (Nat.le_refl _) _).alloc (by simp) _).trans (hb1.mono (by simp <;> omega))
  clear hb1
  have hn := Hn.out
  unfold blen
  generalize blenN (wv h l).toNat = N at *
  generalize hV : wv h l = V at *
  go_wp2
  go_loopw [5, 7] (fun r i wr => ∃ k : Nat, k ≤ 128 ∧ i = .int .i64 ((k : Int) - 1) ∧ r = .int .u64 (V / 2 ^ k % d) ∧ Two wr w.heap.size (.int .u64 h) (.int .u64 l) ∧ Two wr (w.heap.size + 1) (.int .u64 (V / 2 ^ k / d * 2 ^ k / M64)) (.int .u64 (V / 2 ^ k / d * 2 ^ k % M64)) ∧ Below w.heap.size w wr) (fun _ i _ => (intOf i + 1).toNat)
  case atStart => exact ⟨N, hn, rfl, by rw [Hz.out, Int.zero_emod], tA, by rw [Hz.out, Int.zero_ediv, Int.zero_mul]; exact tQ, hB1⟩
  case round =>
    clear tA tQ hB1 Hz Hn hn
    obtain ⟨k, hk, rfl, rfl, tA, tQ, hB⟩ := hrel
    cases k with
    | zero =>
      rw [show V / 2 ^ 0 = V by simp, show V / d * 2 ^ 0 = V / d by simp] at *
      have c1 := tQ.c0
      have c2 := tQ.c1
      have c3 := tQ.free 0
      have c4 := tQ.free 1
      have tQ' := hide tQ
      clear tQ tA
      go_wp2
      rw [Exit.noGoto_ret]
      exact bodyPost_ret (results_two_tmp2 rfl _ _ rfl tQ'.out.set2) rfl ⟨by rw [hV]; rfl, (hB.setCell (by simp) _).setCell (by simp) _⟩
    | succ k =>
      have hk2 : k < 128 := by omega
      rw [show (((k + 1 : Nat) : Int) - 1) = (k : Int) by omega]
      have hr0 := Int.emod_nonneg (V / 2 ^ (k + 1)) (show d ≠ 0 by omega)
      have hr1 := Int.emod_lt_of_pos (V / 2 ^ (k + 1)) hd
      have hQ := Int.ediv_nonneg (Int.ediv_nonneg hV0 (show (0 : Int) ≤ 2 ^ (k + 1) from Int.pow_nonneg (by decide))) hd0
      have hb : 0 ≤ b2i (bitF V k) ∧ b2i (bitF V k) ≤ 1 := by unfold b2i; split <;> omega
      obtain ⟨hb0, hb1⟩ := hb
      have U := hide (div_up hV0 hd k)
      have W := hide (div_same hV0 hd k)
      have E := hide (low_bit V hV0 k hk2)
      have S := hide (shl_in (V / 2 ^ (k + 1) % d) (b2i (bitF V k)) hr0 (by omega) hb0 hb1)
      have O := hide (or_halves (V / 2 ^ (k + 1) / d) k hQ)
      have J1 := hide (join_mul (V / 2 ^ (k + 1) / d) k)
      have J2 := hide (join_mul0 (V / 2 ^ (k + 1) / d) k)
      have hfit : V / 2 ^ k / d * 2 ^ k ≤ V := by
        have p0 : (0 : Int) < 2 ^ k := Int.pow_pos (by decide)
        have p1 := Int.ediv_mul_le V (show (2 : Int) ^ k ≠ 0 by omega)
        have p2 : V / 2 ^ k / d ≤ V / 2 ^ k := Int.ediv_le_self _ (Int.ediv_nonneg hV0 (by omega))
        exact Int.le_trans (Int.mul_le_mul_of_nonneg_right p2 (by omega)) p1
      generalize V / 2 ^ (k + 1) / d = q at *
      generalize V / 2 ^ (k + 1) % d = r at *
      generalize b2i (bitF V k) = b at *
      have c1 := tA.c0
      have c2 := tA.c1
      have hB' := hide hB
      have tQ' := hide tQ
      have tA' := hide tA
      have Hfit := hide hfit
      have HV := hide hV
      clear hB tQ tA hfit hV
      by_cases hge : d ≤ r * 2 + b
      · have U' := hide (U.out hge)
        clear U W
        by_cases htop : r < 9223372036854775808
        · have hL := S.out
          rw [if_pos htop, wrap_id (r * 2) (by omega) (by omega)] at hL
          have T1 : (r / 9223372036854775808 == 1) = false := by simp; omega
          clear S
          have E' := E.out
          clear E
          go_wp2_with (fail)
          (with_reducible refine (wright_any h l k _ hh hl hh2 hl2).mono ?_)
          rintro e w2 ⟨rfl, hb2⟩
          rw [HV.out]
          have tA2 := hide (tA'.out.below hb2 tA'.out.lt)
          have tQ2 := hide (tQ'.out.below hb2 tQ'.out.lt)
          have hB2 := hide (hB'.out.trans (hb2.mono hB'.out.size))
          clear hb2 tA' tQ' hB' c1 c2
          go_wp2_with (fail)
          (with_reducible refine (wleft_any 0 1 k _ (by decide) (by decide) (by decide) (by decide)).mono ?_)
          rintro e w3 ⟨rfl, hb3⟩
          rw [lft_unit k hk2]
          have tA3 := hide (tA2.out.below hb3 tA2.out.lt)
          have tQ3 := hide (tQ2.out.below hb3 tQ2.out.lt)
          have hB3 := hide (hB2.out.trans (hb3.mono hB2.out.size))
          clear hb3 tA2 tQ2 hB2
          have c1 := tQ3.out.c0
          have c2 := tQ3.out.c1
          have c3 := tQ3.out.free 0
          have c4 := tQ3.out.free 1
          have lt3 := tQ3.out.lt
          go_wp2
          go_roundw
          case rel =>
            have hfit := Hfit.out
            rw [U'.out.1, J1.out] at hfit
            have o := O.out (by omega)
            have hB4 := hB3.out
            refine ⟨k, by omega, rfl, ?_, ((tA3.out.setCell _ (by simp)).setCell _ (by simp)).alloc _, ?_, below_put (hB4.setCell (by simp) _) (by simp) _ _⟩
            · rw [U'.out.2]
            · rw [U'.out.1, J1.out, ← o.1, ← o.2]
              exact tQ3.out.set2.alloc _
          case measure => simp [intOf] <;> omega
        · have hL := S.out
          rw [if_neg htop] at hL
          have hr2 : r < 18446744073709551616 := by rw [M64_eq] at hd2; omega
          have T1 : (r / 9223372036854775808 == 1) = true := by simp; omega
          obtain ⟨L, hLL⟩ : ∃ L, L = r * 2 + b - M64 := ⟨_, rfl⟩
          rw [← hLL] at hL
          have hw := hide (show IntKind.u64.wrap (L - d) = r * 2 + b - d by rw [hLL, IntKind.wrap_u64]; rw [M64_eq] at *; omega)
          clear S hLL
          have E' := E.out
          clear E
          go_wp2_with (fail)
          (with_reducible refine (wright_any h l k _ hh hl hh2 hl2).mono ?_)
          rintro e w2 ⟨rfl, hb2⟩
          rw [HV.out]
          have tA2 := hide (tA'.out.below hb2 tA'.out.lt)
          have tQ2 := hide (tQ'.out.below hb2 tQ'.out.lt)
          have hB2 := hide (hB'.out.trans (hb2.mono hB'.out.size))
          clear hb2 tA' tQ' hB' c1 c2
          go_wp2_with (fail)
          (with_reducible refine (wleft_any 0 1 k _ (by decide) (by decide) (by decide) (by decide)).mono ?_)
          rintro e w3 ⟨rfl, hb3⟩
          rw [lft_unit k hk2]
          have tA3 := hide (tA2.out.below hb3 tA2.out.lt)
          have tQ3 := hide (tQ2.out.below hb3 tQ2.out.lt)
          have hB3 := hide (hB2.out.trans (hb3.mono hB2.out.size))
          clear hb3 tA2 tQ2 hB2
          have c1 := tQ3.out.c0
          have c2 := tQ3.out.c1
          have c3 := tQ3.out.free 0
          have c4 := tQ3.out.free 1
          have lt3 := tQ3.out.lt
          go_wp2
          go_roundw
          case rel =>
            have hfit := Hfit.out
            rw [U'.out.1, J1.out] at hfit
            have o := O.out (by omega)
            have hB4 := hB3.out
            refine ⟨k, by omega, rfl, ?_, ((tA3.out.setCell _ (by simp)).setCell _ (by simp)).alloc _, ?_, below_put (hB4.setCell (by simp) _) (by simp) _ _⟩
            · rw [U'.out.2, hw.out]
            · rw [U'.out.1, J1.out, ← o.1, ← o.2]
              exact tQ3.out.set2.alloc _
          case measure => simp [intOf] <;> omega
      · have W' := hide (W.out hge)
        have hL := S.out
        rw [if_pos (by rw [M64_eq] at hd2; omega), wrap_id (r * 2) (by omega) (by rw [M64_eq] at hd2; omega)] at hL
        have T1 : (r / 9223372036854775808 == 1) = false := by simp; rw [M64_eq] at hd2; omega
        have hr2 : r < 9223372036854775808 := by rw [M64_eq] at hd2; omega
        clear S U W
        have E' := E.out
        clear E
        go_wp2_with (fail)
        (with_reducible refine (wright_any h l k _ hh hl hh2 hl2).mono ?_)
        rintro e w2 ⟨rfl, hb2⟩
        rw [HV.out]
        have tA2 := hide (tA'.out.below hb2 tA'.out.lt)
        have tQ2 := hide (tQ'.out.below hb2 tQ'.out.lt)
        have hB2 := hide (hB'.out.trans (hb2.mono hB'.out.size))
        clear hb2 tA' tQ' hB' c1 c2
        go_wp2
        go_roundw
        case rel => exact ⟨k, by omega, rfl, by rw [W'.out.2], tA2.out, by rw [W'.out.1, J2.out]; exact tQ2.out, hB2.out⟩
        case measure => simp [intOf] <;> omega
end Go.Proofs.Ytadilccdipcmnaa
