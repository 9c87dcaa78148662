/- Checked whole numbers: what the reference's MulDiv comes to. Arguments: any int64. -/
import Derived.Test.YtadilccdipcmnaaFixA
namespace Go.Proofs.Ytadilccdipcmnaa
open Go Go.RowKit

theorem blen_pos {x : Int} (h : 0 ≤ x) : (0 < blen x ↔ 0 < x) := by
  have h1 := blenN_lt x.toNat
  unfold blen
  constructor
  · intro h2
    rcases Int.lt_or_eq_of_le h with h3 | h3
    · exact h3
    · rw [← h3] at h2
      simp [blenN_zero] at h2
  · intro h2
    rcases Nat.eq_zero_or_pos (blenN x.toNat) with h3 | h3
    · rw [h3] at h1
      omega
    · omega

/-- What the region that adds one keeps. -/
def OneC (p q n : Nat) (w0 : World) (Q R : Int) (g : Nat → Bool) (w : World) : Prop :=
  (∃ f, Row w p f ∧ (g 6 = false → f = bitF Q) ∧ (g 6 = true → f = bitF (Q + 1))) ∧ Row w q (bitF R) ∧ Below n w0 w ∧ n ≤ w.heap.size
theorem OneC.below {p q n : Nat} {w0 : World} {Q R : Int} {g : Nat → Bool} {w w' : World} (h : OneC p q n w0 Q R g w) (hb : Below w.heap.size w w') : OneC p q n w0 Q R g w' := by
  obtain ⟨⟨f, hf, h1, h2⟩, hR, hB, hn⟩ := h
  exact ⟨⟨f, hf.below hb hf.lt, h1, h2⟩, hR.below hb hR.lt, hB.trans (hb.mono hn), Nat.le_trans hn hb.size⟩

theorem OneC.drew {p q n : Nat} {w0 : World} {Q R : Int} {g : Nat → Bool} {w : World} (h : OneC p q n w0 Q R g w) : OneC p q n w0 Q R g w.drew :=
  ⟨h.1, h.2.1, h.2.2.1.drew, h.2.2.2⟩
set_option maxRecDepth 100000 in
set_option maxHeartbeats 4000000 in
theorem refmuldiv_any (a b d : Int) (up : Bool) (w : World) (ha : okI a) (hb : okI b) (hd : okI d) :
    Calls Try.prog 47 #[.int .i64 a, .int .i64 b, .int .i64 d, .bool up] w fun e w' => e = .returned (opt (mulDivF a b d up)) ∧ Below w.heap.size w w' := by
  unfold okI at ha hb hd
  by_cases h1 : a < 0
  · have e : mulDivF a b d up = none := by unfold mulDivF; rw [if_pos (.inl h1)]
    rw [e]
    clear e
    go_enter Try.func47, Try.ntmps47
    go_wp2
    go_ret2
    exact ⟨rfl, Below.refl _ _⟩
  by_cases h2 : b < 0
  · have e : mulDivF a b d up = none := by unfold mulDivF; rw [if_pos (.inr (.inl h2))]
    rw [e]
    clear e
    go_enter Try.func47, Try.ntmps47
    go_wp2
    go_ret2
    exact ⟨rfl, Below.refl _ _⟩
  by_cases h3 : d < 1
  · have e : mulDivF a b d up = none := by unfold mulDivF; rw [if_pos (.inr (.inr h3))]
    rw [e]
    clear e
    go_enter Try.func47, Try.ntmps47
    go_wp2
    go_ret2
    exact ⟨rfl, Below.refl _ _⟩
  have MM : (9223372036854775808 : Int) < M64 := by decide
  have MMM : M64 < M128 := by decide
  have ha0 : 0 ≤ a := by omega
  have hb0 : 0 ≤ b := by omega
  have hd1 : 1 ≤ d := by omega
  obtain ⟨O, hO⟩ : ∃ O, O = mulDivF a b d up := ⟨_, rfl⟩
  rw [← hO]
  have HO0 := hide (hO.trans (muldiv_in ha0 hb0 hd1 up))
  clear hO
  have HB := hide (muldiv_bd ha0 hb0 ha.2 hb.2 hd1 up)
  obtain ⟨p0, p1⟩ := mul_bd ha0 hb0 (show a < M64 by omega) (show b < M64 by omega)
  go_enter Try.func47, Try.ntmps47
  go_wp2_with (fail)
  (with_reducible refine (refmul_any a b _ ha0 hb0 (by omega) (by omega)).mono ?_)
  rintro e w1 ⟨rfl, hb1⟩
  have B1 := hide hb1
  clear hb1
  dsimp only
  go_wp2_with (fail)
  (with_reducible refine (refdiv_any (a * b) d _ p0 p1 (by omega) (by omega)).mono ?_)
  rintro e w2 ⟨rfl, hb2'⟩
  have B2 := hide (B1.out.trans (hb2'.mono B1.out.size))
  clear hb2' B1
  dsimp only
  obtain ⟨u0, u1, u2, u3, u4, u5, u6⟩ := HB.out
  clear HB
  cases up
  · have e : upV (a * b / d) false (a * b % d) = a * b / d := by unfold upV; rw [if_neg (by simp)]
    have HO := hide (HO0.out.trans (by rw [e]))
    clear e HO0 u4 u5
    generalize a * b / d = V at *
    generalize a * b % d = R at *
    go_wp2_with (first | ((with_reducible apply load_row); exact rfl; exact rfl; exact rfl; focus ((repeat' (first | (with_reducible assumption) | ((with_reducible apply Row.zero'); simp; done) | ((with_reducible apply Row.new'); simp; done) | (with_reducible apply Row.setRow) | (with_reducible apply Row.setRow_other) | (with_reducible apply Row.alloc) | (with_reducible apply Row.drew) | (simp; done) | omega | (simp; omega))); done)) | ((with_reducible apply store_row); exact rfl; exact rfl; exact rfl; exact rfl; focus ((repeat' (first | (with_reducible assumption) | ((with_reducible apply Row.zero'); simp; done) | ((with_reducible apply Row.new'); simp; done) | (with_reducible apply Row.setRow) | (with_reducible apply Row.setRow_other) | (with_reducible apply Row.alloc) | (with_reducible apply Row.drew) | (simp; done) | omega | (simp; omega))); done)))
    (with_reducible refine (halves_any V _ u0 u1).mono ?_)
    rintro e w5 ⟨rfl, hb5⟩
    have B5 := hide (B2.out.trans ((keep_below hb5 (by (repeat' (first | (with_reducible exact Below.refl _ _) | (with_reducible apply below_setRow) | (with_reducible apply Below.alloc) | (simp; done) | omega | (simp; omega)))) (by simp <;> omega) : Below w2.heap.size w2 w5).mono (by have := B2.out.size; omega)))
    clear hb5
    dsimp only
    by_cases hz : V / M64 = 0
    · have e2 : V % M64 = V := by rw [M64_eq] at *; omega
      rw [hz, e2]
      clear hz e2
      go_wp2_with (fail)
      (with_reducible refine (signed_pos V _ u0).mono ?_)
      rintro e w6 ⟨rfl, rfl⟩
      dsimp only
      by_cases hv : V < 9223372036854775808
      · rw [if_pos hv, opt_some]
        have HO2 := hide (HO.out.trans (if_pos hv))
        clear HO hv
        go_wp2
        go_ret2
        exact ⟨by rw [HO2.out]; rfl, B5.out⟩
      · rw [if_neg hv, opt_none]
        have HO2 := hide (HO.out.trans (if_neg hv))
        clear HO hv
        go_wp2
        go_ret2
        exact ⟨by rw [HO2.out]; rfl, B5.out⟩
    · have hgz : 0 < V / M64 := by rw [M64_eq] at *; omega
      have hv : ¬ V < 9223372036854775808 := by rw [M64_eq] at hgz; omega
      have HO2 := hide (HO.out.trans (if_neg hv))
      clear HO hv hz
      go_wp2
      go_ret2
      exact ⟨by rw [HO2.out]; rfl, B5.out⟩
  · by_cases hpos : 0 < a * b % d
    · have e : upV (a * b / d) true (a * b % d) = a * b / d + 1 := by unfold upV; rw [if_pos ⟨rfl, hpos⟩]
      have HO := hide (HO0.out.trans (by rw [e]))
      rw [e] at u4 u5
      clear e HO0
      generalize a * b / d = Q at *
      generalize a * b % d = R at *
      go_wp2_with (first | first | ((with_reducible apply load_row); exact rfl; exact rfl; exact rfl; focus ((repeat' (first | (with_reducible assumption) | ((with_reducible apply Row.zero'); simp; done) | ((with_reducible apply Row.new'); simp; done) | (with_reducible apply Row.setRow) | (with_reducible apply Row.setRow_other) | (with_reducible apply Row.alloc) | (with_reducible apply Row.drew) | (simp; done) | omega | (simp; omega))); done)) | ((with_reducible apply store_row); exact rfl; exact rfl; exact rfl; exact rfl; focus ((repeat' (first | (with_reducible assumption) | ((with_reducible apply Row.zero'); simp; done) | ((with_reducible apply Row.new'); simp; done) | (with_reducible apply Row.setRow) | (with_reducible apply Row.setRow_other) | (with_reducible apply Row.alloc) | (with_reducible apply Row.drew) | (simp; done) | omega | (simp; omega))); done)) | ((with_reducible apply load_two); exact rfl; exact rfl; exact rfl; focus ((repeat' (first | (with_reducible assumption) | ((with_reducible apply Two.new'); simp; done) | (with_reducible apply Two.setRow) | (with_reducible apply Two.setRow_other) | (with_reducible apply Two.alloc) | (simp; done) | omega | (simp; omega))); done)) | ((with_reducible apply store_two); exact rfl; exact rfl; exact rfl; exact rfl; exact rfl; exact rfl; focus ((repeat' (first | (with_reducible assumption) | ((with_reducible apply Two.new'); simp; done) | (with_reducible apply Two.setRow) | (with_reducible apply Two.setRow_other) | (with_reducible apply Two.alloc) | (simp; done) | omega | (simp; omega))); done)) | ((with_reducible apply eq_step); exact rfl; exact rfl; exact rfl; exact rfl; simp only [Act.put, List.setIfInBounds_toArray, List.set_cons_zero, List.set_cons_succ]) | ((with_reducible apply neq_step); exact rfl; exact rfl; exact rfl; exact rfl; simp only [Act.put, List.setIfInBounds_toArray, List.set_cons_zero, List.set_cons_succ]) | first | ((with_reducible apply gload_two); exact rfl; exact rfl; exact rfl; focus ((repeat' (first | (with_reducible assumption) | ((with_reducible apply Two.new'); simp; done) | (with_reducible apply Two.setRow) | (with_reducible apply Two.setRow_other) | (with_reducible apply Two.alloc) | (simp; done) | omega | (simp; omega))); done)) | ((with_reducible apply gload_row); exact rfl; exact rfl; exact rfl; focus ((repeat' (first | (with_reducible assumption) | ((with_reducible apply Row.zero'); simp; done) | ((with_reducible apply Row.new'); simp; done) | (with_reducible apply Row.setRow) | (with_reducible apply Row.setRow_other) | (with_reducible apply Row.alloc) | (with_reducible apply Row.drew) | (simp; done) | omega | (simp; omega))); done)) | ((with_reducible apply geq_two); exact rfl; exact rfl; exact rfl; exact rfl; simp only [Act.put, List.setIfInBounds_toArray, List.set_cons_zero, List.set_cons_succ]) | ((with_reducible apply gneq_two); exact rfl; exact rfl; exact rfl; exact rfl; simp only [Act.put, List.setIfInBounds_toArray, List.set_cons_zero, List.set_cons_succ]))
      (with_reducible refine (len_any R _ u2 (by omega)).mono ?_)
      rintro e w3 ⟨rfl, hb3⟩
      have rQ : Row w3 w2.heap.size (bitF Q) := Row.below (by (repeat' (first | (with_reducible assumption) | ((with_reducible apply Row.zero'); simp; done) | ((with_reducible apply Row.new'); simp; done) | (with_reducible apply Row.setRow) | (with_reducible apply Row.setRow_other) | (with_reducible apply Row.alloc) | (with_reducible apply Row.drew) | (simp; done) | omega | (simp; omega)))) hb3 (by simp <;> omega)
      have rR : Row w3 (w2.heap.size + 1) (bitF R) := Row.below (by (repeat' (first | (with_reducible assumption) | ((with_reducible apply Row.zero'); simp; done) | ((with_reducible apply Row.new'); simp; done) | (with_reducible apply Row.setRow) | (with_reducible apply Row.setRow_other) | (with_reducible apply Row.alloc) | (with_reducible apply Row.drew) | (simp; done) | omega | (simp; omega)))) hb3 (by simp <;> omega)
      have B3 := hide (keep_below hb3 (by (repeat' (first | (with_reducible exact Below.refl _ _) | (with_reducible apply below_setRow) | (with_reducible apply Below.alloc) | (simp; done) | omega | (simp; omega)))) (by simp <;> omega) : Below w2.heap.size w2 w3)
      clear hb3
      dsimp only
      have hgt := (blen_pos u2).2 hpos
      go_wp2_with (first | first | ((with_reducible apply load_row); exact rfl; exact rfl; exact rfl; focus ((repeat' (first | (with_reducible assumption) | ((with_reducible apply Row.zero'); simp; done) | ((with_reducible apply Row.new'); simp; done) | (with_reducible apply Row.setRow) | (with_reducible apply Row.setRow_other) | (with_reducible apply Row.alloc) | (with_reducible apply Row.drew) | (simp; done) | omega | (simp; omega))); done)) | ((with_reducible apply store_row); exact rfl; exact rfl; exact rfl; exact rfl; focus ((repeat' (first | (with_reducible assumption) | ((with_reducible apply Row.zero'); simp; done) | ((with_reducible apply Row.new'); simp; done) | (with_reducible apply Row.setRow) | (with_reducible apply Row.setRow_other) | (with_reducible apply Row.alloc) | (with_reducible apply Row.drew) | (simp; done) | omega | (simp; omega))); done)) | ((with_reducible apply load_two); exact rfl; exact rfl; exact rfl; focus ((repeat' (first | (with_reducible assumption) | ((with_reducible apply Two.new'); simp; done) | (with_reducible apply Two.setRow) | (with_reducible apply Two.setRow_other) | (with_reducible apply Two.alloc) | (simp; done) | omega | (simp; omega))); done)) | ((with_reducible apply store_two); exact rfl; exact rfl; exact rfl; exact rfl; exact rfl; exact rfl; focus ((repeat' (first | (with_reducible assumption) | ((with_reducible apply Two.new'); simp; done) | (with_reducible apply Two.setRow) | (with_reducible apply Two.setRow_other) | (with_reducible apply Two.alloc) | (simp; done) | omega | (simp; omega))); done)) | ((with_reducible apply eq_step); exact rfl; exact rfl; exact rfl; exact rfl; simp only [Act.put, List.setIfInBounds_toArray, List.set_cons_zero, List.set_cons_succ]) | ((with_reducible apply neq_step); exact rfl; exact rfl; exact rfl; exact rfl; simp only [Act.put, List.setIfInBounds_toArray, List.set_cons_zero, List.set_cons_succ]) | first | ((with_reducible apply gload_two); exact rfl; exact rfl; exact rfl; focus ((repeat' (first | (with_reducible assumption) | ((with_reducible apply Two.new'); simp; done) | (with_reducible apply Two.setRow) | (with_reducible apply Two.setRow_other) | (with_reducible apply Two.alloc) | (simp; done) | omega | (simp; omega))); done)) | ((with_reducible apply gload_row); exact rfl; exact rfl; exact rfl; focus ((repeat' (first | (with_reducible assumption) | ((with_reducible apply Row.zero'); simp; done) | ((with_reducible apply Row.new'); simp; done) | (with_reducible apply Row.setRow) | (with_reducible apply Row.setRow_other) | (with_reducible apply Row.alloc) | (with_reducible apply Row.drew) | (simp; done) | omega | (simp; omega))); done)) | ((with_reducible apply geq_two); exact rfl; exact rfl; exact rfl; exact rfl; simp only [Act.put, List.setIfInBounds_toArray, List.set_cons_zero, List.set_cons_succ]) | ((with_reducible apply gneq_two); exact rfl; exact rfl; exact rfl; exact rfl; simp only [Act.put, List.setIfInBounds_toArray, List.set_cons_zero, List.set_cons_succ]))
      have hC : OneC w2.heap.size (w2.heap.size + 1) w2.heap.size w2 Q R (fun _ => false) w3 := ⟨⟨_, rQ, fun _ => rfl, fun h => by cases h⟩, rR, B3.out, B3.out.size⟩
      have HQm := hide (Int.emod_eq_of_lt u4 u5)
      refine wp_region_drawn (fun g w' => OneC w2.heap.size (w2.heap.size + 1) w2.heap.size w2 Q R g w') mixed (by kernel_rfl) hC.drew ?_
      refine lex_val (v := .agg (bf (bitF Q))) rfl (fun g w' hc => hc) (fun g w' hg hc => by obtain ⟨⟨f, hf, h1, -⟩, -⟩ := hc; obtain rfl := h1 (hg 6 (by kernel_rfl)); exact exec_load_row _ rfl rfl hf) ?_
      refine lex_call (f := 27) (args := #[.int .u64 0, .int .u64 1]) (v := .agg (bf (bitF 1))) rfl (fun w' => exec_call (by kernel_rfl) rfl rfl) (fun g w' _ hc => ?_) ?_
      · refine (of_any 0 1 w' (by decide) (by decide) (by decide) (by decide)).mono ?_
        rintro e w'' ⟨rfl, hb⟩
        exact ⟨rfl, hc.below hb⟩
      refine lex_call (f := 58) (args := #[.agg (bf (bitF Q)), .agg (bf (bitF 1))]) (v := .tuple #[.agg (bf (bitF (Q + 1))), .bool true]) rfl (fun w' => exec_call (by kernel_rfl) rfl rfl) (fun g w' _ hc => ?_) ?_
      · refine (add_any Q 1 w' u0 u1 (by decide) (by decide)).mono ?_
        rintro e w'' ⟨rfl, hb⟩
        exact ⟨by rw [HQm.out, decide_eq_true u5], hc.below hb⟩
      simp only [Act.put, List.setIfInBounds_toArray, List.set_cons_zero, List.set_cons_succ]
      refine lex_val rfl (fun g w' hc => hc) (fun g w' _ _ => exec_move _ rfl rfl) ?_
      refine lex_val (v := .agg (bf (bitF (Q + 1)))) rfl (fun g w' hc => hc) (fun g w' _ hc => exec_extract _ _ rfl rfl rfl) ?_
      refine lex_val (v := .bool true) rfl (fun g w' hc => hc) (fun g w' _ hc => exec_extract _ _ rfl rfl rfl) ?_
      simp only [Act.put, List.setIfInBounds_toArray, List.set_cons_zero, List.set_cons_succ]
      refine lex_put rfl (fun g w' _ hc => ?_) ?_
      · obtain ⟨⟨f, hf, -, -⟩, hR, hB, hn⟩ := hc
        have hlt := rR.lt
        exact ⟨_, exec_store_row _ _ rfl rfl rfl hf, ⟨_, hf.setRow, fun h => by simp [mark] at h, fun _ => rfl⟩, hR.setRow_other _ (by omega), below_setRow hB (Nat.le_refl _) _, by simpa using hn⟩
      refine lex_nil ?_
      rintro w4 ⟨⟨f, hf, -, h2⟩, -, hB4, -⟩
      obtain rfl := h2 rfl
      have B4 := hide (B2.out.trans (hB4.mono B2.out.size))
      clear h2 hB4 hC rQ rR
      generalize Q + 1 = V at *
      have u0 := u4
      have u1 := u5
      go_wp2_with (first | first | ((with_reducible apply load_row); exact rfl; exact rfl; exact rfl; focus ((repeat' (first | (with_reducible assumption) | ((with_reducible apply Row.zero'); simp; done) | ((with_reducible apply Row.new'); simp; done) | (with_reducible apply Row.setRow) | (with_reducible apply Row.setRow_other) | (with_reducible apply Row.alloc) | (with_reducible apply Row.drew) | (simp; done) | omega | (simp; omega))); done)) | ((with_reducible apply store_row); exact rfl; exact rfl; exact rfl; exact rfl; focus ((repeat' (first | (with_reducible assumption) | ((with_reducible apply Row.zero'); simp; done) | ((with_reducible apply Row.new'); simp; done) | (with_reducible apply Row.setRow) | (with_reducible apply Row.setRow_other) | (with_reducible apply Row.alloc) | (with_reducible apply Row.drew) | (simp; done) | omega | (simp; omega))); done)) | ((with_reducible apply load_two); exact rfl; exact rfl; exact rfl; focus ((repeat' (first | (with_reducible assumption) | ((with_reducible apply Two.new'); simp; done) | (with_reducible apply Two.setRow) | (with_reducible apply Two.setRow_other) | (with_reducible apply Two.alloc) | (simp; done) | omega | (simp; omega))); done)) | ((with_reducible apply store_two); exact rfl; exact rfl; exact rfl; exact rfl; exact rfl; exact rfl; focus ((repeat' (first | (with_reducible assumption) | ((with_reducible apply Two.new'); simp; done) | (with_reducible apply Two.setRow) | (with_reducible apply Two.setRow_other) | (with_reducible apply Two.alloc) | (simp; done) | omega | (simp; omega))); done)) | ((with_reducible apply eq_step); exact rfl; exact rfl; exact rfl; exact rfl; simp only [Act.put, List.setIfInBounds_toArray, List.set_cons_zero, List.set_cons_succ]) | ((with_reducible apply neq_step); exact rfl; exact rfl; exact rfl; exact rfl; simp only [Act.put, List.setIfInBounds_toArray, List.set_cons_zero, List.set_cons_succ]) | first | ((with_reducible apply gload_two); exact rfl; exact rfl; exact rfl; focus ((repeat' (first | (with_reducible assumption) | ((with_reducible apply Two.new'); simp; done) | (with_reducible apply Two.setRow) | (with_reducible apply Two.setRow_other) | (with_reducible apply Two.alloc) | (simp; done) | omega | (simp; omega))); done)) | ((with_reducible apply gload_row); exact rfl; exact rfl; exact rfl; focus ((repeat' (first | (with_reducible assumption) | ((with_reducible apply Row.zero'); simp; done) | ((with_reducible apply Row.new'); simp; done) | (with_reducible apply Row.setRow) | (with_reducible apply Row.setRow_other) | (with_reducible apply Row.alloc) | (with_reducible apply Row.drew) | (simp; done) | omega | (simp; omega))); done)) | ((with_reducible apply geq_two); exact rfl; exact rfl; exact rfl; exact rfl; simp only [Act.put, List.setIfInBounds_toArray, List.set_cons_zero, List.set_cons_succ]) | ((with_reducible apply gneq_two); exact rfl; exact rfl; exact rfl; exact rfl; simp only [Act.put, List.setIfInBounds_toArray, List.set_cons_zero, List.set_cons_succ]))
      (with_reducible refine (halves_any V _ u0 u1).mono ?_)
      rintro e w5 ⟨rfl, hb5⟩
      have B5 := hide (B4.out.trans ((keep_below hb5 (by (repeat' (first | (with_reducible exact Below.refl _ _) | (with_reducible apply below_setRow) | (with_reducible apply Below.alloc) | (simp; done) | omega | (simp; omega)))) (by simp <;> omega) : Below w4.heap.size w4 w5).mono (by have := B4.out.size; omega)))
      clear hb5
      dsimp only
      by_cases hz : V / M64 = 0
      · have e2 : V % M64 = V := by rw [M64_eq] at *; omega
        rw [hz, e2]
        clear hz e2
        go_wp2_with (fail)
        (with_reducible refine (signed_pos V _ u0).mono ?_)
        rintro e w6 ⟨rfl, rfl⟩
        dsimp only
        by_cases hv : V < 9223372036854775808
        · rw [if_pos hv, opt_some]
          have HO2 := hide (HO.out.trans (if_pos hv))
          clear HO hv
          go_wp2
          go_ret2
          exact ⟨by rw [HO2.out]; rfl, B5.out⟩
        · rw [if_neg hv, opt_none]
          have HO2 := hide (HO.out.trans (if_neg hv))
          clear HO hv
          go_wp2
          go_ret2
          exact ⟨by rw [HO2.out]; rfl, B5.out⟩
      · have hgz : 0 < V / M64 := by rw [M64_eq] at *; omega
        have hv : ¬ V < 9223372036854775808 := by rw [M64_eq] at hgz; omega
        have HO2 := hide (HO.out.trans (if_neg hv))
        clear HO hv hz
        go_wp2
        go_ret2
        exact ⟨by rw [HO2.out]; rfl, B5.out⟩
    · have e : upV (a * b / d) true (a * b % d) = a * b / d := by unfold upV; rw [if_neg (by simp; omega)]
      have HO := hide (HO0.out.trans (by rw [e]))
      clear e HO0 u4 u5
      generalize a * b / d = V at *
      generalize a * b % d = R at *
      go_wp2_with (first | first | ((with_reducible apply load_row); exact rfl; exact rfl; exact rfl; focus ((repeat' (first | (with_reducible assumption) | ((with_reducible apply Row.zero'); simp; done) | ((with_reducible apply Row.new'); simp; done) | (with_reducible apply Row.setRow) | (with_reducible apply Row.setRow_other) | (with_reducible apply Row.alloc) | (with_reducible apply Row.drew) | (simp; done) | omega | (simp; omega))); done)) | ((with_reducible apply store_row); exact rfl; exact rfl; exact rfl; exact rfl; focus ((repeat' (first | (with_reducible assumption) | ((with_reducible apply Row.zero'); simp; done) | ((with_reducible apply Row.new'); simp; done) | (with_reducible apply Row.setRow) | (with_reducible apply Row.setRow_other) | (with_reducible apply Row.alloc) | (with_reducible apply Row.drew) | (simp; done) | omega | (simp; omega))); done)) | ((with_reducible apply load_two); exact rfl; exact rfl; exact rfl; focus ((repeat' (first | (with_reducible assumption) | ((with_reducible apply Two.new'); simp; done) | (with_reducible apply Two.setRow) | (with_reducible apply Two.setRow_other) | (with_reducible apply Two.alloc) | (simp; done) | omega | (simp; omega))); done)) | ((with_reducible apply store_two); exact rfl; exact rfl; exact rfl; exact rfl; exact rfl; exact rfl; focus ((repeat' (first | (with_reducible assumption) | ((with_reducible apply Two.new'); simp; done) | (with_reducible apply Two.setRow) | (with_reducible apply Two.setRow_other) | (with_reducible apply Two.alloc) | (simp; done) | omega | (simp; omega))); done)) | ((with_reducible apply eq_step); exact rfl; exact rfl; exact rfl; exact rfl; simp only [Act.put, List.setIfInBounds_toArray, List.set_cons_zero, List.set_cons_succ]) | ((with_reducible apply neq_step); exact rfl; exact rfl; exact rfl; exact rfl; simp only [Act.put, List.setIfInBounds_toArray, List.set_cons_zero, List.set_cons_succ]) | first | ((with_reducible apply gload_two); exact rfl; exact rfl; exact rfl; focus ((repeat' (first | (with_reducible assumption) | ((with_reducible apply Two.new'); simp; done) | (with_reducible apply Two.setRow) | (with_reducible apply Two.setRow_other) | (with_reducible apply Two.alloc) | (simp; done) | omega | (simp; omega))); done)) | ((with_reducible apply gload_row); exact rfl; exact rfl; exact rfl; focus ((repeat' (first | (with_reducible assumption) | ((with_reducible apply Row.zero'); simp; done) | ((with_reducible apply Row.new'); simp; done) | (with_reducible apply Row.setRow) | (with_reducible apply Row.setRow_other) | (with_reducible apply Row.alloc) | (with_reducible apply Row.drew) | (simp; done) | omega | (simp; omega))); done)) | ((with_reducible apply geq_two); exact rfl; exact rfl; exact rfl; exact rfl; simp only [Act.put, List.setIfInBounds_toArray, List.set_cons_zero, List.set_cons_succ]) | ((with_reducible apply gneq_two); exact rfl; exact rfl; exact rfl; exact rfl; simp only [Act.put, List.setIfInBounds_toArray, List.set_cons_zero, List.set_cons_succ]))
      (with_reducible refine (len_any R _ u2 (by omega)).mono ?_)
      rintro e w3 ⟨rfl, hb3⟩
      have rQ : Row w3 w2.heap.size (bitF V) := Row.below (by (repeat' (first | (with_reducible assumption) | ((with_reducible apply Row.zero'); simp; done) | ((with_reducible apply Row.new'); simp; done) | (with_reducible apply Row.setRow) | (with_reducible apply Row.setRow_other) | (with_reducible apply Row.alloc) | (with_reducible apply Row.drew) | (simp; done) | omega | (simp; omega)))) hb3 (by simp <;> omega)
      have B3 := hide (keep_below hb3 (by (repeat' (first | (with_reducible exact Below.refl _ _) | (with_reducible apply below_setRow) | (with_reducible apply Below.alloc) | (simp; done) | omega | (simp; omega)))) (by simp <;> omega) : Below w2.heap.size w2 w3)
      clear hb3
      dsimp only
      have hgt : ¬ 0 < blen R := fun h => absurd ((blen_pos u2).1 h) (by omega)
      go_wp2_with (first | first | ((with_reducible apply load_row); exact rfl; exact rfl; exact rfl; focus ((repeat' (first | (with_reducible assumption) | ((with_reducible apply Row.zero'); simp; done) | ((with_reducible apply Row.new'); simp; done) | (with_reducible apply Row.setRow) | (with_reducible apply Row.setRow_other) | (with_reducible apply Row.alloc) | (with_reducible apply Row.drew) | (simp; done) | omega | (simp; omega))); done)) | ((with_reducible apply store_row); exact rfl; exact rfl; exact rfl; exact rfl; focus ((repeat' (first | (with_reducible assumption) | ((with_reducible apply Row.zero'); simp; done) | ((with_reducible apply Row.new'); simp; done) | (with_reducible apply Row.setRow) | (with_reducible apply Row.setRow_other) | (with_reducible apply Row.alloc) | (with_reducible apply Row.drew) | (simp; done) | omega | (simp; omega))); done)) | ((with_reducible apply load_two); exact rfl; exact rfl; exact rfl; focus ((repeat' (first | (with_reducible assumption) | ((with_reducible apply Two.new'); simp; done) | (with_reducible apply Two.setRow) | (with_reducible apply Two.setRow_other) | (with_reducible apply Two.alloc) | (simp; done) | omega | (simp; omega))); done)) | ((with_reducible apply store_two); exact rfl; exact rfl; exact rfl; exact rfl; exact rfl; exact rfl; focus ((repeat' (first | (with_reducible assumption) | ((with_reducible apply Two.new'); simp; done) | (with_reducible apply Two.setRow) | (with_reducible apply Two.setRow_other) | (with_reducible apply Two.alloc) | (simp; done) | omega | (simp; omega))); done)) | ((with_reducible apply eq_step); exact rfl; exact rfl; exact rfl; exact rfl; simp only [Act.put, List.setIfInBounds_toArray, List.set_cons_zero, List.set_cons_succ]) | ((with_reducible apply neq_step); exact rfl; exact rfl; exact rfl; exact rfl; simp only [Act.put, List.setIfInBounds_toArray, List.set_cons_zero, List.set_cons_succ]) | first | ((with_reducible apply gload_two); exact rfl; exact rfl; exact rfl; focus ((repeat' (first | (with_reducible assumption) | ((with_reducible apply Two.new'); simp; done) | (with_reducible apply Two.setRow) | (with_reducible apply Two.setRow_other) | (with_reducible apply Two.alloc) | (simp; done) | omega | (simp; omega))); done)) | ((with_reducible apply gload_row); exact rfl; exact rfl; exact rfl; focus ((repeat' (first | (with_reducible assumption) | ((with_reducible apply Row.zero'); simp; done) | ((with_reducible apply Row.new'); simp; done) | (with_reducible apply Row.setRow) | (with_reducible apply Row.setRow_other) | (with_reducible apply Row.alloc) | (with_reducible apply Row.drew) | (simp; done) | omega | (simp; omega))); done)) | ((with_reducible apply geq_two); exact rfl; exact rfl; exact rfl; exact rfl; simp only [Act.put, List.setIfInBounds_toArray, List.set_cons_zero, List.set_cons_succ]) | ((with_reducible apply gneq_two); exact rfl; exact rfl; exact rfl; exact rfl; simp only [Act.put, List.setIfInBounds_toArray, List.set_cons_zero, List.set_cons_succ]))
      (with_reducible refine (halves_any V _ u0 u1).mono ?_)
      rintro e w5 ⟨rfl, hb5⟩
      have B5 := hide ((B2.out.trans (B3.out.mono B2.out.size)).trans ((keep_below hb5 (by (repeat' (first | (with_reducible exact Below.refl _ _) | (with_reducible apply below_setRow) | (with_reducible apply Below.alloc) | (simp; done) | omega | (simp; omega)))) (by simp <;> omega) : Below w3.heap.size w3 w5).mono (by have := (B2.out.trans (B3.out.mono B2.out.size)).size; omega)))
      clear hb5
      dsimp only
      by_cases hz : V / M64 = 0
      · have e2 : V % M64 = V := by rw [M64_eq] at *; omega
        rw [hz, e2]
        clear hz e2
        go_wp2_with (fail)
        (with_reducible refine (signed_pos V _ u0).mono ?_)
        rintro e w6 ⟨rfl, rfl⟩
        dsimp only
        by_cases hv : V < 9223372036854775808
        · rw [if_pos hv, opt_some]
          have HO2 := hide (HO.out.trans (if_pos hv))
          clear HO hv
          go_wp2
          go_ret2
          exact ⟨by rw [HO2.out]; rfl, B5.out⟩
        · rw [if_neg hv, opt_none]
          have HO2 := hide (HO.out.trans (if_neg hv))
          clear HO hv
          go_wp2
          go_ret2
          exact ⟨by rw [HO2.out]; rfl, B5.out⟩
      · have hgz : 0 < V / M64 := by rw [M64_eq] at *; omega
        have hv : ¬ V < 9223372036854775808 := by rw [M64_eq] at hgz; omega
        have HO2 := hide (HO.out.trans (if_neg hv))
        clear HO hv hz
        go_wp2
        go_ret2
        exact ⟨by rw [HO2.out]; rfl, B5.out⟩
end Go.Proofs.Ytadilccdipcmnaa
