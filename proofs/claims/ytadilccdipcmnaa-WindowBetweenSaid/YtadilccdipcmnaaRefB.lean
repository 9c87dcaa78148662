/- The reference's numbers of 128 bits: what Sub, Left, Right, Len, Halves come to. Arguments: arrays of the bits of a number from 0 to 2^128 - 1, and any int to move by. -/
import Derived.Test.YtadilccdipcmnaaRefA
namespace Go.Proofs.Ytadilccdipcmnaa
open Go Go.RowKit

theorem sub_mod (x y : Int) : (x + ((M128 - 1 - y) + 1) % M128) % M128 = (x - y) % M128 := by
  rw [M128_eq]
  omega
theorem cmp_geq (x y : Int) : decide (0 ≤ cmpV x y) = decide (y ≤ x) := by
  unfold cmpV
  by_cases h : x < y
  · simp [h, Int.not_le.2 h]
  · by_cases h2 : y < x
    · simp [h, h2, Int.le_of_lt h2]
    · simp [h, h2, Int.not_lt.1 h]
set_option maxRecDepth 100000 in
set_option maxHeartbeats 1000000 in
theorem sub_any (x y : Int) (w : World) (h0 : 0 ≤ x) (h : x < M128) (h0' : 0 ≤ y) (h' : y < M128) :
    Calls Try.prog 60 #[.agg (bf (bitF x)), .agg (bf (bitF y))] w fun e w' => e = .returned (.tuple #[.agg (bf (bitF ((x - y) % M128))), .bool (decide (y ≤ x))]) ∧ Below w.heap.size w w' := by
  have hM : (0 : Int) < M128 := by decide
  go_enter Try.func60, Try.ntmps60
  go_wp2_with (first | ((with_reducible apply load_row); exact rfl; exact rfl; exact rfl; focus ((repeat' (first | (with_reducible assumption) | ((with_reducible apply Row.zero'); simp; done) | ((with_reducible apply Row.new'); simp; done) | (with_reducible apply Row.setRow) | (with_reducible apply Row.setRow_other) | (with_reducible apply Row.alloc) | (with_reducible apply Row.drew) | (simp; done) | (simp; omega))); done)) | ((with_reducible apply store_row); exact rfl; exact rfl; exact rfl; exact rfl; focus ((repeat' (first | (with_reducible assumption) | ((with_reducible apply Row.zero'); simp; done) | ((with_reducible apply Row.new'); simp; done) | (with_reducible apply Row.setRow) | (with_reducible apply Row.setRow_other) | (with_reducible apply Row.alloc) | (with_reducible apply Row.drew) | (simp; done) | (simp; omega))); done)))
  (with_reducible refine (not_any y _ h0' h').mono ?_)
  rintro e w1 ⟨rfl, hb1⟩
  have rX : Row w1 w.heap.size (bitF x) := Row.below (by (repeat' (first | (with_reducible assumption) | ((with_reducible apply Row.zero'); simp; done) | ((with_reducible apply Row.new'); simp; done) | (with_reducible apply Row.setRow) | (with_reducible apply Row.setRow_other) | (with_reducible apply Row.alloc) | (with_reducible apply Row.drew) | (simp; done) | (simp; omega)))) hb1 (by simp <;> omega)
  have rY : Row w1 (w.heap.size + 1) (bitF y) := Row.below (by (repeat' (first | (with_reducible assumption) | ((with_reducible apply Row.zero'); simp; done) | ((with_reducible apply Row.new'); simp; done) | (with_reducible apply Row.setRow) | (with_reducible apply Row.setRow_other) | (with_reducible apply Row.alloc) | (with_reducible apply Row.drew) | (simp; done) | (simp; omega)))) hb1 (by simp <;> omega)
  have rZ : Row w1 (w.heap.size + 1 + 1) (fun _ => false) := Row.below (by (repeat' (first | (with_reducible assumption) | ((with_reducible apply Row.zero'); simp; done) | ((with_reducible apply Row.new'); simp; done) | (with_reducible apply Row.setRow) | (with_reducible apply Row.setRow_other) | (with_reducible apply Row.alloc) | (with_reducible apply Row.drew) | (simp; done) | (simp; omega)))) hb1 (by simp <;> omega)
  have B1 : Below w.heap.size w w1 := ((((Below.refl _ _).alloc (Nat.le_refl _) _).alloc (by simp) _).alloc (by simp <;> omega) _).trans (hb1.mono (by simp <;> omega))
  clear hb1
  go_wp2_with (first | ((with_reducible apply load_row); exact rfl; exact rfl; exact rfl; focus ((repeat' (first | (with_reducible assumption) | ((with_reducible apply Row.zero'); simp; done) | ((with_reducible apply Row.new'); simp; done) | (with_reducible apply Row.setRow) | (with_reducible apply Row.setRow_other) | (with_reducible apply Row.alloc) | (with_reducible apply Row.drew) | (simp; done) | (simp; omega))); done)) | ((with_reducible apply store_row); exact rfl; exact rfl; exact rfl; exact rfl; focus ((repeat' (first | (with_reducible assumption) | ((with_reducible apply Row.zero'); simp; done) | ((with_reducible apply Row.new'); simp; done) | (with_reducible apply Row.setRow) | (with_reducible apply Row.setRow_other) | (with_reducible apply Row.alloc) | (with_reducible apply Row.drew) | (simp; done) | (simp; omega))); done)))
  (with_reducible refine (of_any 0 1 _ (by decide) (by decide) (by decide) (by decide)).mono ?_)
  rintro e w2 ⟨rfl, hb2⟩
  replace rX := rX.below hb2 rX.lt
  replace rY := rY.below hb2 rY.lt
  replace rZ := rZ.below hb2 rZ.lt
  replace B1 := B1.trans (hb2.mono B1.size)
  clear hb2
  go_wp2_with (first | ((with_reducible apply load_row); exact rfl; exact rfl; exact rfl; focus ((repeat' (first | (with_reducible assumption) | ((with_reducible apply Row.zero'); simp; done) | ((with_reducible apply Row.new'); simp; done) | (with_reducible apply Row.setRow) | (with_reducible apply Row.setRow_other) | (with_reducible apply Row.alloc) | (with_reducible apply Row.drew) | (simp; done) | (simp; omega))); done)) | ((with_reducible apply store_row); exact rfl; exact rfl; exact rfl; exact rfl; focus ((repeat' (first | (with_reducible assumption) | ((with_reducible apply Row.zero'); simp; done) | ((with_reducible apply Row.new'); simp; done) | (with_reducible apply Row.setRow) | (with_reducible apply Row.setRow_other) | (with_reducible apply Row.alloc) | (with_reducible apply Row.drew) | (simp; done) | (simp; omega))); done)))
  (with_reducible refine (add_any (M128 - 1 - y) 1 _ (by omega) (by omega) (by decide) (by decide)).mono ?_)
  rintro e w3 ⟨rfl, hb3⟩
  replace rX := rX.below hb3 rX.lt
  replace rY := rY.below hb3 rY.lt
  replace rZ := rZ.below hb3 rZ.lt
  replace B1 := B1.trans (hb3.mono B1.size)
  clear hb3
  have lX := rX.lt
  have lY := rY.lt
  have lZ := rZ.lt
  go_wp2_with (first | ((with_reducible apply load_row); exact rfl; exact rfl; exact rfl; focus ((repeat' (first | (with_reducible assumption) | ((with_reducible apply Row.zero'); simp; done) | ((with_reducible apply Row.new'); simp; done) | (with_reducible apply Row.setRow) | (with_reducible apply Row.setRow_other) | (with_reducible apply Row.alloc) | (with_reducible apply Row.drew) | (simp; done) | (simp; omega))); done)) | ((with_reducible apply store_row); exact rfl; exact rfl; exact rfl; exact rfl; focus ((repeat' (first | (with_reducible assumption) | ((with_reducible apply Row.zero'); simp; done) | ((with_reducible apply Row.new'); simp; done) | (with_reducible apply Row.setRow) | (with_reducible apply Row.setRow_other) | (with_reducible apply Row.alloc) | (with_reducible apply Row.drew) | (simp; done) | (simp; omega))); done)))
  (with_reducible refine (add_any x ((M128 - 1 - y + 1) % M128) _ (by omega) (by omega) (Int.emod_nonneg _ (by decide)) (Int.emod_lt_of_pos _ hM)).mono ?_)
  rintro e w4 ⟨rfl, hb4⟩
  replace rX : Row w4 w.heap.size (bitF x) := Row.below (by (repeat' (first | (with_reducible assumption) | ((with_reducible apply Row.zero'); simp; done) | ((with_reducible apply Row.new'); simp; done) | (with_reducible apply Row.setRow) | (with_reducible apply Row.setRow_other) | (with_reducible apply Row.alloc) | (with_reducible apply Row.drew) | (simp; done) | (simp; omega)))) hb4 (by simp <;> omega)
  replace rY : Row w4 (w.heap.size + 1) (bitF y) := Row.below (by (repeat' (first | (with_reducible assumption) | ((with_reducible apply Row.zero'); simp; done) | ((with_reducible apply Row.new'); simp; done) | (with_reducible apply Row.setRow) | (with_reducible apply Row.setRow_other) | (with_reducible apply Row.alloc) | (with_reducible apply Row.drew) | (simp; done) | (simp; omega)))) hb4 (by simp <;> omega)
  replace rZ : Row w4 (w.heap.size + 1 + 1) (fun _ => false) := Row.below (by (repeat' (first | (with_reducible assumption) | ((with_reducible apply Row.zero'); simp; done) | ((with_reducible apply Row.new'); simp; done) | (with_reducible apply Row.setRow) | (with_reducible apply Row.setRow_other) | (with_reducible apply Row.alloc) | (with_reducible apply Row.drew) | (simp; done) | (simp; omega)))) hb4 (by simp <;> omega)
  replace B1 : Below w.heap.size w w4 := (below_setRow (B1.alloc B1.size _) B1.size _).trans (hb4.mono (by simp <;> omega))
  clear hb4 lX lY lZ
  have lX := rX.lt
  have lY := rY.lt
  have lZ := rZ.lt
  rw [sub_mod]
  go_wp2_with (first | ((with_reducible apply load_row); exact rfl; exact rfl; exact rfl; focus ((repeat' (first | (with_reducible assumption) | ((with_reducible apply Row.zero'); simp; done) | ((with_reducible apply Row.new'); simp; done) | (with_reducible apply Row.setRow) | (with_reducible apply Row.setRow_other) | (with_reducible apply Row.alloc) | (with_reducible apply Row.drew) | (simp; done) | (simp; omega))); done)) | ((with_reducible apply store_row); exact rfl; exact rfl; exact rfl; exact rfl; focus ((repeat' (first | (with_reducible assumption) | ((with_reducible apply Row.zero'); simp; done) | ((with_reducible apply Row.new'); simp; done) | (with_reducible apply Row.setRow) | (with_reducible apply Row.setRow_other) | (with_reducible apply Row.alloc) | (with_reducible apply Row.drew) | (simp; done) | (simp; omega))); done)))
  have hD : 0 ≤ (x - y) % M128 ∧ (x - y) % M128 < M128 := ⟨Int.emod_nonneg _ (by decide), Int.emod_lt_of_pos _ hM⟩
  generalize hW : ((w4.alloc (Obj.cells Try.zeroCells28 28)).setRow w4.heap.size (bf (bitF ((x - y) % M128)))) = W
  have qX : Row W w.heap.size (bitF x) := by rw [← hW]; exact (by (repeat' (first | (with_reducible assumption) | ((with_reducible apply Row.zero'); simp; done) | ((with_reducible apply Row.new'); simp; done) | (with_reducible apply Row.setRow) | (with_reducible apply Row.setRow_other) | (with_reducible apply Row.alloc) | (with_reducible apply Row.drew) | (simp; done) | (simp; omega))))
  have qY : Row W (w.heap.size + 1) (bitF y) := by rw [← hW]; exact (by (repeat' (first | (with_reducible assumption) | ((with_reducible apply Row.zero'); simp; done) | ((with_reducible apply Row.new'); simp; done) | (with_reducible apply Row.setRow) | (with_reducible apply Row.setRow_other) | (with_reducible apply Row.alloc) | (with_reducible apply Row.drew) | (simp; done) | (simp; omega))))
  have qZ : Row W (w.heap.size + 1 + 1) (fun _ => false) := by rw [← hW]; exact (by (repeat' (first | (with_reducible assumption) | ((with_reducible apply Row.zero'); simp; done) | ((with_reducible apply Row.new'); simp; done) | (with_reducible apply Row.setRow) | (with_reducible apply Row.setRow_other) | (with_reducible apply Row.alloc) | (with_reducible apply Row.drew) | (simp; done) | (simp; omega))))
  have qD : Row W w4.heap.size (bitF ((x - y) % M128)) := by rw [← hW]; exact (by (repeat' (first | (with_reducible assumption) | ((with_reducible apply Row.zero'); simp; done) | ((with_reducible apply Row.new'); simp; done) | (with_reducible apply Row.setRow) | (with_reducible apply Row.setRow_other) | (with_reducible apply Row.alloc) | (with_reducible apply Row.drew) | (simp; done) | (simp; omega))))
  have qB : Below w.heap.size w W := by rw [← hW]; exact below_setRow (B1.alloc B1.size _) B1.size _
  clear hW rX rY rZ B1
  generalize w4.heap.size = d at *
  generalize w3.heap.size = c at *
  refine wp_region_drawn (fun g w' => Row w' w.heap.size (bitF x) ∧ Row w' (w.heap.size + 1) (bitF y) ∧ Row w' d (bitF ((x - y) % M128)) ∧ (∃ f0, Row w' (w.heap.size + 1 + 1) f0 ∧ (g 5 = true → f0 = bitF ((x - y) % M128))) ∧ Below w.heap.size w w') mixed (by kernel_rfl) ⟨qX.drew, qY.drew, qD.drew, ⟨_, qZ.drew, fun h => by cases h⟩, qB.drew⟩ ?_
  refine lex_val rfl (fun g w' hc => hc) (fun g w' _ hc => exec_load_row _ rfl rfl hc.2.2.1) ?_
  refine lex_val rfl (fun g w' hc => hc) (fun g w' _ hc => exec_load_row _ rfl rfl hc.1) ?_
  refine lex_val rfl (fun g w' hc => hc) (fun g w' _ hc => exec_load_row _ rfl rfl hc.2.1) ?_
  refine lex_call (f := 62) (args := #[.agg (bf (bitF x)), .agg (bf (bitF y))]) (v := .int .i64 (cmpV x y)) rfl (fun w' => by go_simp) (fun g w' _ hc => ?_) ?_
  · refine (cmp_any x y w' h0 h h0' h').mono ?_
    rintro e w'' ⟨rfl, hb⟩
    obtain ⟨f0, hf, hg⟩ := hc.2.2.2.1
    exact ⟨rfl, hc.1.below hb hc.1.lt, hc.2.1.below hb hc.2.1.lt, hc.2.2.1.below hb hc.2.2.1.lt, ⟨f0, hf.below hb hf.lt, hg⟩, hc.2.2.2.2.trans (hb.mono hc.2.2.2.2.size)⟩
  refine lex_val (v := .bool (decide (0 ≤ cmpV x y))) rfl (fun g w' hc => hc) (fun g w' _ _ => by go_simp) ?_
  refine lex_put rfl (fun g w' _ hc => ?_) ?_
  · obtain ⟨f0, hf, hg⟩ := hc.2.2.2.1
    exact ⟨_, exec_store_row _ _ rfl rfl rfl hf, hc.1.setRow_other _ (by omega), hc.2.1.setRow_other _ (by omega), hc.2.2.1.setRow_other _ (by omega), ⟨_, hf.setRow, fun _ => rfl⟩, below_setRow hc.2.2.2.2 (by omega) _⟩
  refine lex_val (v := .bool (decide (0 ≤ cmpV x y))) rfl (fun g w' hc => hc) (fun g w' _ _ => by go_simp) ?_
  refine lex_nil ?_
  rintro w' ⟨-, -, -, ⟨f0, hf, hg⟩, hb⟩
  obtain rfl := hg rfl
  clear qX qY qZ qD qB hg
  rw [cmp_geq]
  have hf' := hide hf
  clear hf
  simp only [Act.put, List.setIfInBounds_toArray, List.set_cons_zero, List.set_cons_succ, Exit.then]
  go_wp2
  refine bodyPost_ret (results_row_tmp rfl _ _ rfl hf'.out) rfl ⟨rfl, hb⟩

theorem lft_neg {x n : Int} (h : n < 0) : lft x n = x := by simp [lft, h]
theorem lft_far {x n : Int} (h : 128 ≤ n) : lft x n = 0 := by simp [lft, show ¬ n < 0 by omega, h]
theorem rgt_neg {x n : Int} (h : n < 0) : rgt x n = x := by simp [rgt, h]
theorem rgt_far {x n : Int} (h : 128 ≤ n) : rgt x n = 0 := by simp [rgt, show ¬ n < 0 by omega, h]
theorem bf_none : bf (fun _ => false) = bf (bitF 0) := bf_congr fun j _ => (bitF_zero j).symm
set_option maxRecDepth 100000 in
set_option maxHeartbeats 1000000 in
theorem left_any (x n : Int) (w : World) (h0 : 0 ≤ x) :
    Calls Try.prog 29 #[.agg (bf (bitF x)), .int .i64 n] w fun e w' => e = .returned (.agg (bf (bitF (lft x n)))) ∧ Below w.heap.size w w' := by
  have B0 : ∀ o1 o2 o3 : Obj, Below w.heap.size w (((w.alloc o1).alloc o2).alloc o3) := fun o1 o2 o3 => (((Below.refl _ _).alloc (Nat.le_refl _) _).alloc (by simp) _).alloc (by simp <;> omega) _
  have hB0 := hide B0
  clear B0
  by_cases hn : n < 0
  · have e := hide (lft_neg (x := x) hn)
    go_enter Try.func29, Try.ntmps29
    go_wp2_with (first | ((with_reducible apply load_row); exact rfl; exact rfl; exact rfl; focus ((repeat' (first | (with_reducible assumption) | ((with_reducible apply Row.zero'); simp; done) | ((with_reducible apply Row.new'); simp; done) | (with_reducible apply Row.setRow) | (with_reducible apply Row.setRow_other) | (with_reducible apply Row.alloc) | (with_reducible apply Row.drew) | (simp; done) | (simp; omega))); done)) | ((with_reducible apply store_row); exact rfl; exact rfl; exact rfl; exact rfl; focus ((repeat' (first | (with_reducible assumption) | ((with_reducible apply Row.zero'); simp; done) | ((with_reducible apply Row.new'); simp; done) | (with_reducible apply Row.setRow) | (with_reducible apply Row.setRow_other) | (with_reducible apply Row.alloc) | (with_reducible apply Row.drew) | (simp; done) | (simp; omega))); done)))
    refine bodyPost_ret (results_row rfl _ _ rfl (by (repeat' (first | (with_reducible assumption) | ((with_reducible apply Row.zero'); simp; done) | ((with_reducible apply Row.new'); simp; done) | (with_reducible apply Row.setRow) | (with_reducible apply Row.setRow_other) | (with_reducible apply Row.alloc) | (with_reducible apply Row.drew) | (simp; done) | (simp; omega))))) rfl ⟨?_, below_setRow (hB0.out _ _ _) (by omega) _⟩
    rw [e.out]
  · by_cases hf : 128 ≤ n
    · have e := hide (lft_far (x := x) hf)
      go_enter Try.func29, Try.ntmps29
      go_wp2
      go_loopw [6] (fun i wr => i = .int .i64 0 ∧ Row wr (w.heap.size + 1) (fun _ => false) ∧ Row wr (w.heap.size + 1 + 1) (fun _ => false) ∧ Below w.heap.size w wr) (fun _ _ => 0)
      case atStart => exact ⟨rfl, (by (repeat' (first | (with_reducible assumption) | ((with_reducible apply Row.zero'); simp; done) | ((with_reducible apply Row.new'); simp; done) | (with_reducible apply Row.setRow) | (with_reducible apply Row.setRow_other) | (with_reducible apply Row.alloc) | (with_reducible apply Row.drew) | (simp; done) | (simp; omega)))), (by (repeat' (first | (with_reducible assumption) | ((with_reducible apply Row.zero'); simp; done) | ((with_reducible apply Row.new'); simp; done) | (with_reducible apply Row.setRow) | (with_reducible apply Row.setRow_other) | (with_reducible apply Row.alloc) | (with_reducible apply Row.drew) | (simp; done) | (simp; omega)))), hB0.out _ _ _⟩
      case round =>
        obtain ⟨rfl, r1, r2, hB⟩ := hrel
        go_wp2_with (first | ((with_reducible apply load_row); exact rfl; exact rfl; exact rfl; focus ((repeat' (first | (with_reducible assumption) | ((with_reducible apply Row.zero'); simp; done) | ((with_reducible apply Row.new'); simp; done) | (with_reducible apply Row.setRow) | (with_reducible apply Row.setRow_other) | (with_reducible apply Row.alloc) | (with_reducible apply Row.drew) | (simp; done) | (simp; omega))); done)) | ((with_reducible apply store_row); exact rfl; exact rfl; exact rfl; exact rfl; focus ((repeat' (first | (with_reducible assumption) | ((with_reducible apply Row.zero'); simp; done) | ((with_reducible apply Row.new'); simp; done) | (with_reducible apply Row.setRow) | (with_reducible apply Row.setRow_other) | (with_reducible apply Row.alloc) | (with_reducible apply Row.drew) | (simp; done) | (simp; omega))); done)))
        refine bodyPost_ret (results_row rfl _ _ rfl (by (repeat' (first | (with_reducible assumption) | ((with_reducible apply Row.zero'); simp; done) | ((with_reducible apply Row.new'); simp; done) | (with_reducible apply Row.setRow) | (with_reducible apply Row.setRow_other) | (with_reducible apply Row.alloc) | (with_reducible apply Row.drew) | (simp; done) | (simp; omega))))) rfl ⟨?_, below_setRow hB (by omega) _⟩
        rw [e.out, bf_none]
    · obtain ⟨n, rfl⟩ := Int.eq_ofNat_of_zero_le (Int.not_lt.1 hn)
      have hn2 : n < 128 := by omega
      have L := hide (fun j (hj : j < 128) => lft_bit x h0 n j hn2 hj)
      clear hn hf
      go_enter Try.func29, Try.ntmps29
      go_wp2
      go_loopw [6] (fun i wr => ∃ k : Nat, k ≤ 128 ∧ i = .int .i64 k ∧ Row wr w.heap.size (bitF x) ∧ Row wr (w.heap.size + 1) (fun _ => false) ∧ Row wr (w.heap.size + 1 + 1) (mix (fun _ => false) (bitF (lft x n)) k) ∧ Below w.heap.size w wr) (fun i _ => 128 - (intOf i).toNat)
      case atStart => exact ⟨0, by omega, rfl, (by (repeat' (first | (with_reducible assumption) | ((with_reducible apply Row.zero'); simp; done) | ((with_reducible apply Row.new'); simp; done) | (with_reducible apply Row.setRow) | (with_reducible apply Row.setRow_other) | (with_reducible apply Row.alloc) | (with_reducible apply Row.drew) | (simp; done) | (simp; omega)))), (by (repeat' (first | (with_reducible assumption) | ((with_reducible apply Row.zero'); simp; done) | ((with_reducible apply Row.new'); simp; done) | (with_reducible apply Row.setRow) | (with_reducible apply Row.setRow_other) | (with_reducible apply Row.alloc) | (with_reducible apply Row.drew) | (simp; done) | (simp; omega)))), Row.congr (f := fun _ => false) (by (repeat' (first | (with_reducible assumption) | ((with_reducible apply Row.zero'); simp; done) | ((with_reducible apply Row.new'); simp; done) | (with_reducible apply Row.setRow) | (with_reducible apply Row.setRow_other) | (with_reducible apply Row.alloc) | (with_reducible apply Row.drew) | (simp; done) | (simp; omega)))) (fun j _ => (mix_zero (fun _ => false) _ j).symm), hB0.out _ _ _⟩
      case round =>
        obtain ⟨k, hk, rfl, rX, rZ, rO, hB⟩ := hrel
        by_cases hlt : k < 128
        · by_cases hnk : n ≤ k
          · have c1 := rX.cell (i := k - n) (by omega)
            have c2 := rO.cell (i := k) hlt
            have c3 := rO.free k
            have e := hide (show bitF x (k - n) = bitF (lft x n) k by rw [L.out k hlt]; simp [hnk])
            go_wp2
            go_roundw
            case rel => exact ⟨k + 1, by omega, by go_num, rX.setCell _ (by simp <;> omega), rZ.setCell _ (by simp <;> omega), (rO.set _ _).congr (fun j _ => mix_step e.out j), hB.setCell (by simp <;> omega) _⟩
            case measure => simp [intOf] <;> omega
          · have e := hide (show false = bitF (lft x n) k by rw [L.out k hlt]; simp [hnk])
            go_wp2
            go_roundw
            case rel => exact ⟨k + 1, by omega, by go_num, rX, rZ, rO.congr (fun j _ => mix_same (f := fun _ => false) e.out j), hB⟩
            case measure => simp [intOf] <;> omega
        · obtain rfl : k = 128 := by omega
          clear hlt
          have E := hide (fun j hj => mix_end (fun _ => false) (bitF (lft x n)) j hj)
          go_wp2_with (first | ((with_reducible apply load_row); exact rfl; exact rfl; exact rfl; focus ((repeat' (first | (with_reducible assumption) | ((with_reducible apply Row.zero'); simp; done) | ((with_reducible apply Row.new'); simp; done) | (with_reducible apply Row.setRow) | (with_reducible apply Row.setRow_other) | (with_reducible apply Row.alloc) | (with_reducible apply Row.drew) | (simp; done) | (simp; omega))); done)) | ((with_reducible apply store_row); exact rfl; exact rfl; exact rfl; exact rfl; focus ((repeat' (first | (with_reducible assumption) | ((with_reducible apply Row.zero'); simp; done) | ((with_reducible apply Row.new'); simp; done) | (with_reducible apply Row.setRow) | (with_reducible apply Row.setRow_other) | (with_reducible apply Row.alloc) | (with_reducible apply Row.drew) | (simp; done) | (simp; omega))); done)))
          refine bodyPost_ret (results_row rfl _ _ rfl (by (repeat' (first | (with_reducible assumption) | ((with_reducible apply Row.zero'); simp; done) | ((with_reducible apply Row.new'); simp; done) | (with_reducible apply Row.setRow) | (with_reducible apply Row.setRow_other) | (with_reducible apply Row.alloc) | (with_reducible apply Row.drew) | (simp; done) | (simp; omega))))) rfl ⟨?_, below_setRow hB (by omega) _⟩
          rw [bf_congr E.out]

set_option maxRecDepth 100000 in
set_option maxHeartbeats 1000000 in
theorem right_any (x n : Int) (w : World) (h0 : 0 ≤ x) (h : x < M128) :
    Calls Try.prog 31 #[.agg (bf (bitF x)), .int .i64 n] w fun e w' => e = .returned (.agg (bf (bitF (rgt x n)))) ∧ Below w.heap.size w w' := by
  have B0 : ∀ o1 o2 o3 : Obj, Below w.heap.size w (((w.alloc o1).alloc o2).alloc o3) := fun o1 o2 o3 => (((Below.refl _ _).alloc (Nat.le_refl _) _).alloc (by simp) _).alloc (by simp <;> omega) _
  have hB0 := hide B0
  clear B0
  by_cases hn : n < 0
  · have e := hide (rgt_neg (x := x) hn)
    go_enter Try.func31, Try.ntmps31
    go_wp2_with (first | ((with_reducible apply load_row); exact rfl; exact rfl; exact rfl; focus ((repeat' (first | (with_reducible assumption) | ((with_reducible apply Row.zero'); simp; done) | ((with_reducible apply Row.new'); simp; done) | (with_reducible apply Row.setRow) | (with_reducible apply Row.setRow_other) | (with_reducible apply Row.alloc) | (with_reducible apply Row.drew) | (simp; done) | (simp; omega))); done)) | ((with_reducible apply store_row); exact rfl; exact rfl; exact rfl; exact rfl; focus ((repeat' (first | (with_reducible assumption) | ((with_reducible apply Row.zero'); simp; done) | ((with_reducible apply Row.new'); simp; done) | (with_reducible apply Row.setRow) | (with_reducible apply Row.setRow_other) | (with_reducible apply Row.alloc) | (with_reducible apply Row.drew) | (simp; done) | (simp; omega))); done)))
    refine bodyPost_ret (results_row rfl _ _ rfl (by (repeat' (first | (with_reducible assumption) | ((with_reducible apply Row.zero'); simp; done) | ((with_reducible apply Row.new'); simp; done) | (with_reducible apply Row.setRow) | (with_reducible apply Row.setRow_other) | (with_reducible apply Row.alloc) | (with_reducible apply Row.drew) | (simp; done) | (simp; omega))))) rfl ⟨?_, below_setRow (hB0.out _ _ _) (by omega) _⟩
    rw [e.out]
  · by_cases hf : 128 ≤ n
    · have e := hide (rgt_far (x := x) hf)
      go_enter Try.func31, Try.ntmps31
      go_wp2
      go_loopw [6] (fun i wr => i = .int .i64 0 ∧ Row wr (w.heap.size + 1) (fun _ => false) ∧ Row wr (w.heap.size + 1 + 1) (fun _ => false) ∧ Below w.heap.size w wr) (fun _ _ => 0)
      case atStart => exact ⟨rfl, (by (repeat' (first | (with_reducible assumption) | ((with_reducible apply Row.zero'); simp; done) | ((with_reducible apply Row.new'); simp; done) | (with_reducible apply Row.setRow) | (with_reducible apply Row.setRow_other) | (with_reducible apply Row.alloc) | (with_reducible apply Row.drew) | (simp; done) | (simp; omega)))), (by (repeat' (first | (with_reducible assumption) | ((with_reducible apply Row.zero'); simp; done) | ((with_reducible apply Row.new'); simp; done) | (with_reducible apply Row.setRow) | (with_reducible apply Row.setRow_other) | (with_reducible apply Row.alloc) | (with_reducible apply Row.drew) | (simp; done) | (simp; omega)))), hB0.out _ _ _⟩
      case round =>
        obtain ⟨rfl, r1, r2, hB⟩ := hrel
        go_wp2_with (first | ((with_reducible apply load_row); exact rfl; exact rfl; exact rfl; focus ((repeat' (first | (with_reducible assumption) | ((with_reducible apply Row.zero'); simp; done) | ((with_reducible apply Row.new'); simp; done) | (with_reducible apply Row.setRow) | (with_reducible apply Row.setRow_other) | (with_reducible apply Row.alloc) | (with_reducible apply Row.drew) | (simp; done) | (simp; omega))); done)) | ((with_reducible apply store_row); exact rfl; exact rfl; exact rfl; exact rfl; focus ((repeat' (first | (with_reducible assumption) | ((with_reducible apply Row.zero'); simp; done) | ((with_reducible apply Row.new'); simp; done) | (with_reducible apply Row.setRow) | (with_reducible apply Row.setRow_other) | (with_reducible apply Row.alloc) | (with_reducible apply Row.drew) | (simp; done) | (simp; omega))); done)))
        refine bodyPost_ret (results_row rfl _ _ rfl (by (repeat' (first | (with_reducible assumption) | ((with_reducible apply Row.zero'); simp; done) | ((with_reducible apply Row.new'); simp; done) | (with_reducible apply Row.setRow) | (with_reducible apply Row.setRow_other) | (with_reducible apply Row.alloc) | (with_reducible apply Row.drew) | (simp; done) | (simp; omega))))) rfl ⟨?_, below_setRow hB (by omega) _⟩
        rw [e.out, bf_none]
    · obtain ⟨n, rfl⟩ := Int.eq_ofNat_of_zero_le (Int.not_lt.1 hn)
      have hn2 : n < 128 := by omega
      have L := hide (fun j => rgt_bit x h0 n j hn2)
      clear hn hf
      go_enter Try.func31, Try.ntmps31
      go_wp2
      go_loopw [6] (fun i wr => ∃ k : Nat, k ≤ 128 ∧ i = .int .i64 k ∧ Row wr w.heap.size (bitF x) ∧ Row wr (w.heap.size + 1) (fun _ => false) ∧ Row wr (w.heap.size + 1 + 1) (mix (fun _ => false) (bitF (rgt x n)) k) ∧ Below w.heap.size w wr) (fun i _ => 128 - (intOf i).toNat)
      case atStart => exact ⟨0, by omega, rfl, (by (repeat' (first | (with_reducible assumption) | ((with_reducible apply Row.zero'); simp; done) | ((with_reducible apply Row.new'); simp; done) | (with_reducible apply Row.setRow) | (with_reducible apply Row.setRow_other) | (with_reducible apply Row.alloc) | (with_reducible apply Row.drew) | (simp; done) | (simp; omega)))), (by (repeat' (first | (with_reducible assumption) | ((with_reducible apply Row.zero'); simp; done) | ((with_reducible apply Row.new'); simp; done) | (with_reducible apply Row.setRow) | (with_reducible apply Row.setRow_other) | (with_reducible apply Row.alloc) | (with_reducible apply Row.drew) | (simp; done) | (simp; omega)))), Row.congr (f := fun _ => false) (by (repeat' (first | (with_reducible assumption) | ((with_reducible apply Row.zero'); simp; done) | ((with_reducible apply Row.new'); simp; done) | (with_reducible apply Row.setRow) | (with_reducible apply Row.setRow_other) | (with_reducible apply Row.alloc) | (with_reducible apply Row.drew) | (simp; done) | (simp; omega)))) (fun j _ => (mix_zero (fun _ => false) _ j).symm), hB0.out _ _ _⟩
      case round =>
        obtain ⟨k, hk, rfl, rX, rZ, rO, hB⟩ := hrel
        by_cases hlt : k < 128
        · by_cases hnk : k + n < 128
          · have c1 := rX.cell (i := k + n) (by omega)
            have c2 := rO.cell (i := k) hlt
            have c3 := rO.free k
            have e := hide (L.out k).symm
            go_wp2
            go_roundw
            case rel => exact ⟨k + 1, by omega, by go_num, rX.setCell _ (by simp <;> omega), rZ.setCell _ (by simp <;> omega), (rO.set _ _).congr (fun j _ => mix_step e.out j), hB.setCell (by simp <;> omega) _⟩
            case measure => simp [intOf] <;> omega
          · have e := hide (show false = bitF (rgt x n) k by rw [L.out k, bitF_high x h0 h _ (by omega)])
            go_wp2
            go_roundw
            case rel => exact ⟨k + 1, by omega, by go_num, rX, rZ, rO.congr (fun j _ => mix_same (f := fun _ => false) e.out j), hB⟩
            case measure => simp [intOf] <;> omega
        · obtain rfl : k = 128 := by omega
          clear hlt
          have E := hide (fun j hj => mix_end (fun _ => false) (bitF (rgt x n)) j hj)
          go_wp2_with (first | ((with_reducible apply load_row); exact rfl; exact rfl; exact rfl; focus ((repeat' (first | (with_reducible assumption) | ((with_reducible apply Row.zero'); simp; done) | ((with_reducible apply Row.new'); simp; done) | (with_reducible apply Row.setRow) | (with_reducible apply Row.setRow_other) | (with_reducible apply Row.alloc) | (with_reducible apply Row.drew) | (simp; done) | (simp; omega))); done)) | ((with_reducible apply store_row); exact rfl; exact rfl; exact rfl; exact rfl; focus ((repeat' (first | (with_reducible assumption) | ((with_reducible apply Row.zero'); simp; done) | ((with_reducible apply Row.new'); simp; done) | (with_reducible apply Row.setRow) | (with_reducible apply Row.setRow_other) | (with_reducible apply Row.alloc) | (with_reducible apply Row.drew) | (simp; done) | (simp; omega))); done)))
          refine bodyPost_ret (results_row rfl _ _ rfl (by (repeat' (first | (with_reducible assumption) | ((with_reducible apply Row.zero'); simp; done) | ((with_reducible apply Row.new'); simp; done) | (with_reducible apply Row.setRow) | (with_reducible apply Row.setRow_other) | (with_reducible apply Row.alloc) | (with_reducible apply Row.drew) | (simp; done) | (simp; omega))))) rfl ⟨?_, below_setRow hB (by omega) _⟩
          rw [bf_congr E.out]

theorem bit_len (x : Int) (k : Nat) : Value.int .i64 (blenN (x.toNat % 2 ^ (k + 1)) : Int) = .int .i64 (if bitF x k then (k : Int) + 1 else (blenN (x.toNat % 2 ^ k) : Int)) := by
  rw [blenN_succ]
  unfold bitF
  split <;> simp
set_option maxRecDepth 100000 in
set_option maxHeartbeats 1000000 in
theorem len_any (x : Int) (w : World) (h0 : 0 ≤ x) (h : x < M128) :
    Calls Try.prog 33 #[.agg (bf (bitF x))] w fun e w' => e = .returned (.int .i64 (blen x)) ∧ Below w.heap.size w w' := by
  go_enter Try.func33, Try.ntmps33
  go_wp2
  go_loopw [3, 4] (fun n i wr => ∃ k : Nat, k ≤ 128 ∧ i = .int .i64 k ∧ n = .int .i64 (blenN (x.toNat % 2 ^ k) : Int) ∧ Row wr w.heap.size (bitF x) ∧ Below w.heap.size w wr) (fun _ i _ => 128 - (intOf i).toNat)
  case atStart => exact ⟨0, by omega, rfl, by simp [Nat.mod_one, blenN], (by (repeat' (first | (with_reducible assumption) | ((with_reducible apply Row.zero'); simp; done) | ((with_reducible apply Row.new'); simp; done) | (with_reducible apply Row.setRow) | (with_reducible apply Row.setRow_other) | (with_reducible apply Row.alloc) | (with_reducible apply Row.drew) | (simp; done) | (simp; omega)))), (Below.refl _ _).alloc (Nat.le_refl _) _⟩
  case round =>
    obtain ⟨k, hk, rfl, rfl, rX, hB⟩ := hrel
    have S := hide (bit_len x k)
    by_cases hlt : k < 128
    · have c1 := rX.cell (i := k) hlt
      cases hp : bitF x k
      all_goals
        rw [hp] at c1
        have Hp := hide hp
        clear hp
        generalize blenN (x.toNat % 2 ^ k) = b at *
        go_wp2
        go_roundw
        case rel => exact ⟨k + 1, by omega, by go_num, by rw [S.out, Hp.out]; rfl, rX, hB⟩
        case measure => simp [intOf] <;> omega
    · obtain rfl : k = 128 := by omega
      clear hlt S
      have e : (blenN (x.toNat % 2 ^ 128) : Int) = blen x := by
        unfold blen
        rw [Nat.mod_eq_of_lt (by rw [M128_eq] at h; omega)]
      rw [e]
      go_wp2
      go_ret
      exact ⟨rfl, hB⟩

/-- The lowest k bits of a number. -/
def lowp (y : Int) (k : Nat) : Int := y % 2 ^ k
theorem lowp_zero (y : Int) : lowp y 0 = 0 := by simp [lowp, Int.emod_one]
theorem lowp_all (y : Int) (h0 : 0 ≤ y) (h : y < M64) : lowp y 64 = y := by
  unfold lowp
  rw [M64_eq] at h
  exact Int.emod_eq_of_lt h0 (by omega)
theorem lowp_put (y : Int) (h0 : 0 ≤ y) {k : Nat} (hk : k < 64) (b : Bool) (hb : y.toNat.testBit k = b) :
    Value.int .u64 (if b then bits .or .u64 (lowp y k) (IntKind.u64.wrap (2 ^ k)) else lowp y k) = .int .u64 (lowp y (k + 1)) := by
  obtain ⟨n, rfl⟩ := Int.eq_ofNat_of_zero_le h0
  rw [Int.toNat_natCast, Nat.testBit_eq_decide_div_mod_eq] at hb
  have hm : n % 2 ^ (k + 1) = n % 2 ^ k + 2 ^ k * (n / 2 ^ k % 2) := Nat.mod_pow_succ
  have hlt : n % 2 ^ k < 2 ^ k := Nat.mod_lt _ (Nat.two_pow_pos k)
  have hpow : 2 ^ k ≤ 2 ^ 63 := Nat.pow_le_pow_right (by decide) (by omega)
  have e1 : lowp (n : Int) k = ((n % 2 ^ k : Nat) : Int) := by simp [lowp]
  have e2 : lowp (n : Int) (k + 1) = ((n % 2 ^ (k + 1) : Nat) : Int) := by simp [lowp]
  have e3 : IntKind.u64.wrap (2 ^ k) = ((2 ^ k : Nat) : Int) := by
    rw [IntKind.wrap_u64]
    have : ((2 : Int) ^ k) = ((2 ^ k : Nat) : Int) := by simp
    rw [this]
    omega
  cases b with
  | true =>
    have h1 : n / 2 ^ k % 2 = 1 := by simpa using hb
    simp only [if_true]
    rw [e1, e2, e3, u64_or_nat _ _ (by omega) (by omega), Nat.or_comm, nat_join k (2 ^ k) (n % 2 ^ k) (Nat.mod_self _) hlt, hm, h1]
    congr 2
    omega
  | false =>
    have h1 : n / 2 ^ k % 2 = 0 := by
      have : ¬ n / 2 ^ k % 2 = 1 := by simpa using hb
      omega
    simp only [Bool.false_eq_true, if_false]
    rw [e1, e2, hm, h1, Nat.mul_zero, Nat.add_zero]
theorem bit_hi (x : Int) (h0 : 0 ≤ x) (k : Nat) : (x / M64).toNat.testBit k = bitF x (k + 64) := by
  obtain ⟨n, rfl⟩ := Int.eq_ofNat_of_zero_le h0
  have e : (n : Int) / M64 = ((n / 2 ^ 64 : Nat) : Int) := by rw [M64_eq]; omega
  rw [e, Int.toNat_natCast, Nat.testBit_div_two_pow]
  rfl
theorem bit_lo (x : Int) (h0 : 0 ≤ x) (k : Nat) (hk : k < 64) : (x % M64).toNat.testBit k = bitF x k := by
  obtain ⟨n, rfl⟩ := Int.eq_ofNat_of_zero_le h0
  have e : (n : Int) % M64 = ((n % 2 ^ 64 : Nat) : Int) := by rw [M64_eq]; omega
  rw [e, Int.toNat_natCast, Nat.testBit_mod_two_pow]
  simp [hk, bitF]
theorem halves_bd (x : Int) (h0 : 0 ≤ x) (h : x < M128) : 0 ≤ x / M64 ∧ x / M64 < M64 ∧ 0 ≤ x % M64 ∧ x % M64 < M64 := by
  rw [M128_eq] at h
  rw [M64_eq]
  omega
set_option maxRecDepth 100000 in
set_option maxHeartbeats 1000000 in
theorem halves_any (x : Int) (w : World) (h0 : 0 ≤ x) (h : x < M128) :
    Calls Try.prog 36 #[.agg (bf (bitF x))] w fun e w' => e = .returned (.tuple #[.int .u64 (x / M64), .int .u64 (x % M64)]) ∧ Below w.heap.size w w' := by
  obtain ⟨a1, a2, a3, a4⟩ := halves_bd x h0 h
  have e1 := hide (lowp_all _ a1 a2)
  have e2 := hide (lowp_all _ a3 a4)
  have p1 := hide (fun (k : Nat) (hk : k < 64) => lowp_put (x / M64) a1 hk)
  have p2 := hide (fun (k : Nat) (hk : k < 64) => lowp_put (x % M64) a3 hk)
  have q1 := hide (bit_hi x h0)
  have q2 := hide (bit_lo x h0)
  clear a1 a2 a3 a4
  generalize hH : x / M64 = H at *
  generalize hL : x % M64 = L at *
  clear hH hL
  go_enter Try.func36, Try.ntmps36
  go_wp2
  go_loopw [4, 5, 6] (fun hi lo i wr => ∃ k : Nat, k ≤ 64 ∧ i = .int .i64 k ∧ hi = .int .u64 (lowp H k) ∧ lo = .int .u64 (lowp L k) ∧ Row wr w.heap.size (bitF x) ∧ Below w.heap.size w wr) (fun _ _ i _ => 64 - (intOf i).toNat)
  case atStart => exact ⟨0, by omega, rfl, by rw [lowp_zero], by rw [lowp_zero], (by (repeat' (first | (with_reducible assumption) | ((with_reducible apply Row.zero'); simp; done) | ((with_reducible apply Row.new'); simp; done) | (with_reducible apply Row.setRow) | (with_reducible apply Row.setRow_other) | (with_reducible apply Row.alloc) | (with_reducible apply Row.drew) | (simp; done) | (simp; omega)))), (Below.refl _ _).alloc (Nat.le_refl _) _⟩
  case round =>
    obtain ⟨k, hk, rfl, rfl, rfl, rX, hB⟩ := hrel
    by_cases hlt : k < 64
    · have c1 := rX.cell (i := k) (by omega)
      have c2 := rX.cell (i := k + 64) (by omega)
      cases hp : bitF x k <;> cases hq : bitF x (k + 64)
      all_goals
        rw [hp] at c1
        rw [hq] at c2
        have Hp := hide hp
        have Hq := hide hq
        clear hp hq
        go_wp2
        go_roundw
        case rel => exact ⟨k + 1, by omega, by go_num, p1.out k hlt _ ((q1.out k).trans Hq.out), p2.out k hlt _ ((q2.out k hlt).trans Hp.out), rX, hB⟩
        case measure => simp [intOf] <;> omega
    · obtain rfl : k = 64 := by omega
      clear hlt
      rw [e1.out, e2.out]
      go_wp2
      go_ret2
      exact ⟨rfl, hB⟩
end Go.Proofs.Ytadilccdipcmnaa
