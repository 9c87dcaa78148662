/- The reference's numbers of 128 bits: what Div comes to. Arguments: an array of the bits of a number from 0 to 2^128 - 1, a word from 1 to 2^64 - 1. -/
import Derived.Test.YtadilccdipcmnaaRefC
namespace Go.Proofs.Ytadilccdipcmnaa
open Go Go.RowKit

/-- What Div's loop keeps in memory. -/
structure DivSt (B d : Nat) (w0 w : World) (x q l y : Nat → Bool) : Prop where
  X : Row w B x
  Z1 : Row w (B + 1) (fun _ => false)
  Z2 : Row w (B + 1 + 1) (fun _ => false)
  Q : Row w (B + 1 + 1 + 1) q
  L : Row w (B + 1 + 1 + 1 + 1) l
  Y : Row w d y
  lt : B + 1 + 1 + 1 + 1 < d
  b : Below B w0 w
section
variable {B d : Nat} {w0 w : World} {x q l y : Nat → Bool}
theorem DivSt.below (h : DivSt B d w0 w x q l y) (hB : B ≤ w.heap.size) {w' : World} (hb : Below w.heap.size w w') : DivSt B d w0 w' x q l y :=
  ⟨h.X.below hb h.X.lt, h.Z1.below hb h.Z1.lt, h.Z2.below hb h.Z2.lt, h.Q.below hb h.Q.lt, h.L.below hb h.L.lt, h.Y.below hb h.Y.lt, h.lt, h.b.trans (hb.mono hB)⟩
theorem DivSt.putL (h : DivSt B d w0 w x q l y) (g : Nat → Bool) : DivSt B d w0 (w.setRow (B + 1 + 1 + 1 + 1) (bf g)) x q g y :=
  ⟨h.X.setRow_other _ (by omega), h.Z1.setRow_other _ (by omega), h.Z2.setRow_other _ (by omega), h.Q.setRow_other _ (by omega), h.L.setRow, h.Y.setRow_other _ (by have := h.lt; omega), h.lt, below_setRow h.b (by omega) _⟩
theorem DivSt.cellL (h : DivSt B d w0 w x q l y) (i : Nat) (v : Bool) : DivSt B d w0 (w.setCell ⟨B + 1 + 1 + 1 + 1, i, none⟩ (.bool v)) x q (upd l i v) y :=
  ⟨h.X.setCell _ (by simp <;> omega), h.Z1.setCell _ (by simp <;> omega), h.Z2.setCell _ (by simp <;> omega), h.Q.setCell _ (by simp <;> omega), h.L.set _ _, h.Y.setCell _ (by have := h.lt; simp <;> omega), h.lt, h.b.setCell (by simp <;> omega) _⟩
theorem DivSt.cellQ (h : DivSt B d w0 w x q l y) (i : Nat) (v : Bool) : DivSt B d w0 (w.setCell ⟨B + 1 + 1 + 1, i, none⟩ (.bool v)) x (upd q i v) l y :=
  ⟨h.X.setCell _ (by simp <;> omega), h.Z1.setCell _ (by simp <;> omega), h.Z2.setCell _ (by simp <;> omega), h.Q.set _ _, h.L.setCell _ (by simp <;> omega), h.Y.setCell _ (by have := h.lt; simp <;> omega), h.lt, h.b.setCell (by simp <;> omega) _⟩
theorem DivSt.congr (h : DivSt B d w0 w x q l y) {q' l' : Nat → Bool} (hq : ∀ j, j < 128 → q j = q' j) (hl : ∀ j, j < 128 → l j = l' j) : DivSt B d w0 w x q' l' y :=
  ⟨h.X, h.Z1, h.Z2, h.Q.congr hq, h.L.congr hl, h.Y, h.lt, h.b⟩
theorem DivSt.size (h : DivSt B d w0 w x q l y) : B ≤ w.heap.size := Nat.le_of_lt h.X.lt
end
theorem lft_one {r : Int} (h0 : 0 ≤ r) (h : r < M64) : lft r 1 = r * 2 := by
  unfold lft
  rw [if_neg (by omega), if_neg (by omega)]
  rw [M64_eq] at h
  rw [M128_eq]
  show r * 2 ^ 1 % _ = _
  omega
theorem join_mul (Q : Int) (k : Nat) : (Q * 2 + 1) * 2 ^ k = Q * 2 ^ (k + 1) + 2 ^ k := by
  rw [Int.add_mul, Int.pow_succ, Int.one_mul, Int.mul_assoc, Int.mul_comm 2]
theorem join_mul0 (Q : Int) (k : Nat) : Q * 2 * 2 ^ k = Q * 2 ^ (k + 1) := by
  rw [Int.pow_succ, Int.mul_assoc, Int.mul_comm 2]

set_option maxRecDepth 100000 in
set_option maxHeartbeats 4000000 in
theorem refdiv_any (x d : Int) (w : World) (h0 : 0 ≤ x) (h : x < M128) (hd : 0 < d) (hd2 : d < M64) :
    Calls Try.prog 35 #[.agg (bf (bitF x)), .int .u64 d] w fun e w' => e = .returned (.tuple #[.agg (bf (bitF (x / d))), .agg (bf (bitF (x % d)))]) ∧ Below w.heap.size w w' := by
  have hMM : M64 * 2 < M128 := by decide
  have hd0 : 0 ≤ d := by omega
  go_enter Try.func35, Try.ntmps35
  go_wp2_with (first | ((with_reducible apply load_row); exact rfl; exact rfl; exact rfl; focus ((repeat' (first | (with_reducible assumption) | ((with_reducible apply Row.zero'); simp; done) | ((with_reducible apply Row.new'); simp; done) | (with_reducible apply Row.setRow) | (with_reducible apply Row.setRow_other) | (with_reducible apply Row.alloc) | (with_reducible apply Row.drew) | (simp; done) | (simp; omega))); done)) | ((with_reducible apply store_row); exact rfl; exact rfl; exact rfl; exact rfl; focus ((repeat' (first | (with_reducible assumption) | ((with_reducible apply Row.zero'); simp; done) | ((with_reducible apply Row.new'); simp; done) | (with_reducible apply Row.setRow) | (with_reducible apply Row.setRow_other) | (with_reducible apply Row.alloc) | (with_reducible apply Row.drew) | (simp; done) | (simp; omega))); done)))
  (with_reducible refine (of_any 0 d _ (by decide) hd0 (by decide) hd2).mono ?_)
  rintro e w1 ⟨rfl, hb1⟩
  have rX : Row w1 w.heap.size (bitF x) := Row.below (by (repeat' (first | (with_reducible assumption) | ((with_reducible apply Row.zero'); simp; done) | ((with_reducible apply Row.new'); simp; done) | (with_reducible apply Row.setRow) | (with_reducible apply Row.setRow_other) | (with_reducible apply Row.alloc) | (with_reducible apply Row.drew) | (simp; done) | (simp; omega)))) hb1 (by simp <;> omega)
  have rZ1 : Row w1 (w.heap.size + 1) (fun _ => false) := Row.below (by (repeat' (first | (with_reducible assumption) | ((with_reducible apply Row.zero'); simp; done) | ((with_reducible apply Row.new'); simp; done) | (with_reducible apply Row.setRow) | (with_reducible apply Row.setRow_other) | (with_reducible apply Row.alloc) | (with_reducible apply Row.drew) | (simp; done) | (simp; omega)))) hb1 (by simp <;> omega)
  have rZ2 : Row w1 (w.heap.size + 1 + 1) (fun _ => false) := Row.below (by (repeat' (first | (with_reducible assumption) | ((with_reducible apply Row.zero'); simp; done) | ((with_reducible apply Row.new'); simp; done) | (with_reducible apply Row.setRow) | (with_reducible apply Row.setRow_other) | (with_reducible apply Row.alloc) | (with_reducible apply Row.drew) | (simp; done) | (simp; omega)))) hb1 (by simp <;> omega)
  have rQ : Row w1 (w.heap.size + 1 + 1 + 1) (fun _ => false) := Row.below (by (repeat' (first | (with_reducible assumption) | ((with_reducible apply Row.zero'); simp; done) | ((with_reducible apply Row.new'); simp; done) | (with_reducible apply Row.setRow) | (with_reducible apply Row.setRow_other) | (with_reducible apply Row.alloc) | (with_reducible apply Row.drew) | (simp; done) | (simp; omega)))) hb1 (by simp <;> omega)
  have rL : Row w1 (w.heap.size + 1 + 1 + 1 + 1) (fun _ => false) := Row.below (by (repeat' (first | (with_reducible assumption) | ((with_reducible apply Row.zero'); simp; done) | ((with_reducible apply Row.new'); simp; done) | (with_reducible apply Row.setRow) | (with_reducible apply Row.setRow_other) | (with_reducible apply Row.alloc) | (with_reducible apply Row.drew) | (simp; done) | (simp; omega)))) hb1 (by simp <;> omega)
  have B1 : Below w.heap.size w w1 := ((((((Below.refl _ _).alloc (Nat.le_refl _) _).alloc (by simp) _).alloc (by simp <;> omega) _).alloc (by simp <;> omega) _).alloc (by simp <;> omega) _).trans (hb1.mono (by simp <;> omega))
  clear hb1
  rw [show 0 * M64 + d = d by omega]
  have l0 := rX.lt
  have l1 := rZ1.lt
  have l2 := rZ2.lt
  have l3 := rQ.lt
  have l4 := rL.lt
  go_wp2_with (first | ((with_reducible apply load_row); exact rfl; exact rfl; exact rfl; focus ((repeat' (first | (with_reducible assumption) | ((with_reducible apply Row.zero'); simp; done) | ((with_reducible apply Row.new'); simp; done) | (with_reducible apply Row.setRow) | (with_reducible apply Row.setRow_other) | (with_reducible apply Row.alloc) | (with_reducible apply Row.drew) | (simp; done) | (simp; omega))); done)) | ((with_reducible apply store_row); exact rfl; exact rfl; exact rfl; exact rfl; focus ((repeat' (first | (with_reducible assumption) | ((with_reducible apply Row.zero'); simp; done) | ((with_reducible apply Row.new'); simp; done) | (with_reducible apply Row.setRow) | (with_reducible apply Row.setRow_other) | (with_reducible apply Row.alloc) | (with_reducible apply Row.drew) | (simp; done) | (simp; omega))); done)))
  have hS : DivSt w.heap.size w1.heap.size w ((w1.alloc (Obj.cells Try.zeroCells28 28)).setRow w1.heap.size (bf (bitF d))) (bitF x) (fun _ => false) (fun _ => false) (bitF d) :=
    ⟨(by (repeat' (first | (with_reducible assumption) | ((with_reducible apply Row.zero'); simp; done) | ((with_reducible apply Row.new'); simp; done) | (with_reducible apply Row.setRow) | (with_reducible apply Row.setRow_other) | (with_reducible apply Row.alloc) | (with_reducible apply Row.drew) | (simp; done) | (simp; omega)))), (by (repeat' (first | (with_reducible assumption) | ((with_reducible apply Row.zero'); simp; done) | ((with_reducible apply Row.new'); simp; done) | (with_reducible apply Row.setRow) | (with_reducible apply Row.setRow_other) | (with_reducible apply Row.alloc) | (with_reducible apply Row.drew) | (simp; done) | (simp; omega)))), (by (repeat' (first | (with_reducible assumption) | ((with_reducible apply Row.zero'); simp; done) | ((with_reducible apply Row.new'); simp; done) | (with_reducible apply Row.setRow) | (with_reducible apply Row.setRow_other) | (with_reducible apply Row.alloc) | (with_reducible apply Row.drew) | (simp; done) | (simp; omega)))), (by (repeat' (first | (with_reducible assumption) | ((with_reducible apply Row.zero'); simp; done) | ((with_reducible apply Row.new'); simp; done) | (with_reducible apply Row.setRow) | (with_reducible apply Row.setRow_other) | (with_reducible apply Row.alloc) | (with_reducible apply Row.drew) | (simp; done) | (simp; omega)))), (by (repeat' (first | (with_reducible assumption) | ((with_reducible apply Row.zero'); simp; done) | ((with_reducible apply Row.new'); simp; done) | (with_reducible apply Row.setRow) | (with_reducible apply Row.setRow_other) | (with_reducible apply Row.alloc) | (with_reducible apply Row.drew) | (simp; done) | (simp; omega)))), (by (repeat' (first | (with_reducible assumption) | ((with_reducible apply Row.zero'); simp; done) | ((with_reducible apply Row.new'); simp; done) | (with_reducible apply Row.setRow) | (with_reducible apply Row.setRow_other) | (with_reducible apply Row.alloc) | (with_reducible apply Row.drew) | (simp; done) | (simp; omega)))), l4, below_setRow (B1.alloc B1.size _) B1.size _⟩
  clear rX rZ1 rZ2 rQ rL B1 l0 l1 l2 l3 l4
  generalize ((w1.alloc (Obj.cells Try.zeroCells28 28)).setRow w1.heap.size (bf (bitF d))) = W at *
  generalize w1.heap.size = D at *
  have hz : x / 2 ^ 128 = 0 := Int.ediv_eq_zero_of_lt h0 (by rw [M128_eq] at h; omega)
  go_loopw [9] (fun i wr => ∃ k : Nat, k ≤ 128 ∧ i = .int .i64 ((k : Int) - 1) ∧ DivSt w.heap.size D w wr (bitF x) (bitF (x / 2 ^ k / d * 2 ^ k)) (bitF (x / 2 ^ k % d)) (bitF d)) (fun i _ => (intOf i + 1).toNat)
  case atStart => exact ⟨128, by omega, rfl, hS.congr (fun j _ => by rw [hz, Int.zero_ediv, Int.zero_mul, bitF_zero]) (fun j _ => by rw [hz, Int.zero_emod, bitF_zero])⟩
  case round =>
    clear hS hz
    obtain ⟨k, hk, rfl, hS⟩ := hrel
    cases k with
    | zero =>
      rw [show x / 2 ^ 0 = x by simp, show x / d * 2 ^ 0 = x / d by simp] at hS
      go_wp2
      refine wp_region_drawn (fun g w' => Row w' (w.heap.size + 1 + 1 + 1) (bitF (x / d)) ∧ Row w' (w.heap.size + 1 + 1 + 1 + 1) (bitF (x % d)) ∧ (∃ f0, Row w' (w.heap.size + 1) f0 ∧ (g 2 = true → f0 = bitF (x / d))) ∧ (∃ f1, Row w' (w.heap.size + 1 + 1) f1 ∧ (g 3 = true → f1 = bitF (x % d))) ∧ Below w.heap.size w w') mixed (by kernel_rfl) ⟨hS.Q.drew, hS.L.drew, ⟨_, hS.Z1.drew, fun h => by cases h⟩, ⟨_, hS.Z2.drew, fun h => by cases h⟩, hS.b.drew⟩ ?_
      refine lex_val rfl (fun g w' hc => hc) (fun g w' _ hc => exec_load_row _ rfl rfl hc.1) ?_
      refine lex_val rfl (fun g w' hc => hc) (fun g w' _ hc => exec_load_row _ rfl rfl hc.2.1) ?_
      simp only [Act.put, List.setIfInBounds_toArray, List.set_cons_zero, List.set_cons_succ]
      refine lex_put rfl (fun g w' _ hc => ?_) ?_
      · obtain ⟨f0, hf, hg⟩ := hc.2.2.1
        obtain ⟨f1, hf1, hg1⟩ := hc.2.2.2.1
        exact ⟨_, exec_store_row _ _ rfl rfl rfl hf, hc.1.setRow_other _ (by omega), hc.2.1.setRow_other _ (by omega), ⟨_, hf.setRow, fun _ => rfl⟩, ⟨_, hf1.setRow_other _ (by omega), hg1⟩, below_setRow hc.2.2.2.2 (by omega) _⟩
      refine lex_put rfl (fun g w' _ hc => ?_) ?_
      · obtain ⟨f0, hf, hg⟩ := hc.2.2.1
        obtain ⟨f1, hf1, hg1⟩ := hc.2.2.2.1
        exact ⟨_, exec_store_row _ _ rfl rfl rfl hf1, hc.1.setRow_other _ (by omega), hc.2.1.setRow_other _ (by omega), ⟨_, hf.setRow_other _ (by omega), hg⟩, ⟨_, hf1.setRow, fun _ => rfl⟩, below_setRow hc.2.2.2.2 (by omega) _⟩
      refine lex_nil ?_
      rintro w' ⟨-, -, ⟨f0, q0, hg⟩, ⟨f1, q1, hg1⟩, hB'⟩
      obtain rfl := hg rfl
      obtain rfl := hg1 rfl
      clear hg hg1 hS
      go_wp2
      exact bodyPost_ret (results_row_row rfl _ _ rfl q0 rfl q1) rfl ⟨rfl, hB'⟩
    | succ k =>
      have hk2 : k < 128 := by omega
      rw [show (((k + 1 : Nat) : Int) - 1) = (k : Int) by omega]
      have hr0 := Int.emod_nonneg (x / 2 ^ (k + 1)) (show d ≠ 0 by omega)
      have hr1 := Int.emod_lt_of_pos (x / 2 ^ (k + 1)) hd
      have hQ := Int.ediv_nonneg (Int.ediv_nonneg h0 (show (0 : Int) ≤ 2 ^ (k + 1) from Int.pow_nonneg (by decide))) hd0
      have hb : 0 ≤ b2i (bitF x k) ∧ b2i (bitF x k) ≤ 1 := by unfold b2i; split <;> omega
      have U := hide (div_up h0 hd k)
      have V := hide (div_same h0 hd k)
      generalize x / 2 ^ (k + 1) / d = q at *
      generalize x / 2 ^ (k + 1) % d = r at *
      have J := hide (bitF_join q hQ k)
      have J1 := hide (join_mul q k)
      have J2 := hide (join_mul0 q k)
      generalize q * 2 ^ (k + 1) = qq at *
      have L0 := hS.L
      go_wp2_with (first | ((with_reducible apply load_row); exact rfl; exact rfl; exact rfl; focus ((repeat' (first | (with_reducible assumption) | ((with_reducible apply Row.zero'); simp; done) | ((with_reducible apply Row.new'); simp; done) | (with_reducible apply Row.setRow) | (with_reducible apply Row.setRow_other) | (with_reducible apply Row.alloc) | (with_reducible apply Row.drew) | (simp; done) | (simp; omega))); done)) | ((with_reducible apply store_row); exact rfl; exact rfl; exact rfl; exact rfl; focus ((repeat' (first | (with_reducible assumption) | ((with_reducible apply Row.zero'); simp; done) | ((with_reducible apply Row.new'); simp; done) | (with_reducible apply Row.setRow) | (with_reducible apply Row.setRow_other) | (with_reducible apply Row.alloc) | (with_reducible apply Row.drew) | (simp; done) | (simp; omega))); done)))
      (with_reducible refine (left_any r 1 _ hr0).mono ?_)
      rintro e w2 ⟨rfl, hb2⟩
      rw [lft_one hr0 (by omega)]
      replace hS := hS.below hS.size hb2
      have S2 := hS.putL (bitF (r * 2))
      have S3 := (S2.cellL 0 (bitF x k)).congr (fun _ _ => rfl) (fun j _ => bitF_low r hr0 _ j)
      clear L0 hb2
      have L1 := hS.L
      have c1 := S2.X.cell (i := k) hk2
      have c2 := S2.L.cell (i := 0) (by omega)
      have c3 := S2.L.free 0
      have L3 := S3.L
      have Y3 := S3.Y
      go_wp2_with (first | ((with_reducible apply load_row); exact rfl; exact rfl; exact rfl; focus ((repeat' (first | (with_reducible assumption) | ((with_reducible apply Row.zero'); simp; done) | ((with_reducible apply Row.new'); simp; done) | (with_reducible apply Row.setRow) | (with_reducible apply Row.setRow_other) | (with_reducible apply Row.alloc) | (with_reducible apply Row.drew) | (simp; done) | (simp; omega))); done)) | ((with_reducible apply store_row); exact rfl; exact rfl; exact rfl; exact rfl; focus ((repeat' (first | (with_reducible assumption) | ((with_reducible apply Row.zero'); simp; done) | ((with_reducible apply Row.new'); simp; done) | (with_reducible apply Row.setRow) | (with_reducible apply Row.setRow_other) | (with_reducible apply Row.alloc) | (with_reducible apply Row.drew) | (simp; done) | (simp; omega))); done)))
      generalize hrr : r * 2 + b2i (bitF x k) = rr at *
      have hrr0 : 0 ≤ rr := by omega
      have hrr1 : rr < M128 := by omega
      have hdM : d < M128 := by omega
      have hrr2 : rr < 2 * d := by omega
      clear hrr
      (with_reducible refine (cmp_any rr d _ hrr0 hrr1 hd0 hdM).mono ?_)
      rintro e w4 ⟨rfl, hb4⟩
      have S4 := S3.below S3.size hb4
      clear S2 S3 hS L1 L3 Y3 c1 c2 c3 hb4
      have L4 := S4.L
      have Y4 := S4.Y
      by_cases hge : d ≤ rr
      · have hc : 0 ≤ cmpV rr d := by
          have := cmp_geq rr d
          simpa [hge] using this
        generalize cmpV rr d = c at *
        have U' := hide (U.out hge)
        clear U V
        go_wp2_with (first | ((with_reducible apply load_row); exact rfl; exact rfl; exact rfl; focus ((repeat' (first | (with_reducible assumption) | ((with_reducible apply Row.zero'); simp; done) | ((with_reducible apply Row.new'); simp; done) | (with_reducible apply Row.setRow) | (with_reducible apply Row.setRow_other) | (with_reducible apply Row.alloc) | (with_reducible apply Row.drew) | (simp; done) | (simp; omega))); done)) | ((with_reducible apply store_row); exact rfl; exact rfl; exact rfl; exact rfl; focus ((repeat' (first | (with_reducible assumption) | ((with_reducible apply Row.zero'); simp; done) | ((with_reducible apply Row.new'); simp; done) | (with_reducible apply Row.setRow) | (with_reducible apply Row.setRow_other) | (with_reducible apply Row.alloc) | (with_reducible apply Row.drew) | (simp; done) | (simp; omega))); done)))
        (with_reducible refine (sub_any rr d _ hrr0 hrr1 hd0 hdM).mono ?_)
        rintro e w5 ⟨rfl, hb5⟩
        rw [show (rr - d) % M128 = rr - d from Int.emod_eq_of_lt (by omega) (by omega)]
        have S5 := S4.below S4.size hb5
        clear S4 L4 Y4 hb5
        have L5 := S5.L
        have S6 := S5.putL (bitF (rr - d))
        have c1 := S6.Q.cell (i := k) hk2
        have c2 := S6.Q.free k
        have S7 := hide (S6.cellQ k true)
        clear S5 S6
        go_wp2_with (first | ((with_reducible apply load_row); exact rfl; exact rfl; exact rfl; focus ((repeat' (first | (with_reducible assumption) | ((with_reducible apply Row.zero'); simp; done) | ((with_reducible apply Row.new'); simp; done) | (with_reducible apply Row.setRow) | (with_reducible apply Row.setRow_other) | (with_reducible apply Row.alloc) | (with_reducible apply Row.drew) | (simp; done) | (simp; omega))); done)) | ((with_reducible apply store_row); exact rfl; exact rfl; exact rfl; exact rfl; focus ((repeat' (first | (with_reducible assumption) | ((with_reducible apply Row.zero'); simp; done) | ((with_reducible apply Row.new'); simp; done) | (with_reducible apply Row.setRow) | (with_reducible apply Row.setRow_other) | (with_reducible apply Row.alloc) | (with_reducible apply Row.drew) | (simp; done) | (simp; omega))); done)))
        go_roundw
        case rel => exact ⟨k, by omega, rfl, S7.out.congr (fun j _ => by rw [J.out, U'.out.1, J1.out]) (fun _ _ => by rw [U'.out.2])⟩
        case measure => simp [intOf] <;> omega
      · have hc : cmpV rr d < 0 := by
          have := cmp_geq rr d
          simpa [hge] using this
        generalize cmpV rr d = c at *
        have V' := hide (V.out (by omega))
        clear U V L4 Y4
        have S7 := hide S4
        clear S4
        go_wp2
        go_roundw
        case rel => exact ⟨k, by omega, rfl, S7.out.congr (fun j _ => by rw [V'.out.1, J2.out]) (fun _ _ => by rw [V'.out.2])⟩
        case measure => simp [intOf] <;> omega
end Go.Proofs.Ytadilccdipcmnaa
