/- Bands of prices of a symbol: the reference's Of, both Collars, and what calm says. -/
import Derived.Test.YtadilccdipcmnaaBandD
namespace Go.Proofs.Ytadilccdipcmnaa
open Go Go.RowKit
attribute [local go_sem] field_bnd0 field_bnd1

def collarF (s : Nat → Int) (first r k : Int) : Option (Int × Int) := if k < 0 ∨ 10 < k then none else withinF s first r (min (s 10 + k * s 11) 9999)
def calmP (s : Nat → Int) : Prop := -1073741824 ≤ s 10 ∧ s 10 ≤ 1073741824 ∧ -1073741824 ≤ s 11 ∧ s 11 ≤ 1073741824
theorem calm_mul {s : Nat → Int} (h : calmP s) {k : Int} (h0 : 0 ≤ k) (h1 : k ≤ 10) : -10737418240 ≤ k * s 11 ∧ k * s 11 ≤ 10737418240 := by
  obtain ⟨a, b, c, d⟩ := h
  have e := Int.mul_le_mul_of_nonneg_left d h0
  have f := Int.mul_le_mul_of_nonneg_left c h0
  omega
set_option maxRecDepth 100000 in
set_option maxHeartbeats 4000000 in
theorem collar_any (s : Nat → Int) (first r k : Int) (w : World) (hg : okI (s 0)) (hc : calmP s) :
    Calls Try.prog 49 #[.agg (symA s), .int .i64 first, .int .i64 r, .int .i64 k] w fun e w' => e = .returned (optB (collarF s first r k)) ∧ Below w.heap.size w w' := by
  have Hg := hide hg
  clear hg
  have tS : Sym ((w.alloc (.cells (symA s) 49)).alloc (.cells #[.int .i64 0, .int .i64 0] 53)) w.heap.size s := (Sym.new w s).alloc _
  by_cases h0 : k < 0
  · have HO : Hid (collarF s first r k = none) := hide (if_pos (.inl h0))
    clear tS hc
    go_enter Try.func49, Try.ntmps49
    go_wp2_with (first | ((with_reducible apply load_bnd); exact rfl; exact rfl; exact rfl; focus ((repeat' (first | (with_reducible assumption) | ((with_reducible apply Bnd.new'); simp; done) | (with_reducible apply Bnd.setRow) | (with_reducible apply Bnd.setRow_other) | (with_reducible apply Bnd.alloc) | (simp; done) | omega | (simp; omega))); done)) | ((with_reducible apply store_bnd); exact rfl; exact rfl; exact rfl; exact rfl; exact rfl; exact rfl; focus ((repeat' (first | (with_reducible assumption) | ((with_reducible apply Bnd.new'); simp; done) | (with_reducible apply Bnd.setRow) | (with_reducible apply Bnd.setRow_other) | (with_reducible apply Bnd.alloc) | (simp; done) | omega | (simp; omega))); done)) | ((with_reducible apply beq_step); exact rfl; exact rfl; exact rfl; exact rfl; simp only [Act.put, List.setIfInBounds_toArray, List.set_cons_zero, List.set_cons_succ]) | ((with_reducible apply bneq_step); exact rfl; exact rfl; exact rfl; exact rfl; simp only [Act.put, List.setIfInBounds_toArray, List.set_cons_zero, List.set_cons_succ]))
    exact bodyPost_ret (results_bnd_tmp rfl _ _ rfl (by (repeat' (first | (with_reducible assumption) | ((with_reducible apply Bnd.new'); simp; done) | (with_reducible apply Bnd.setRow) | (with_reducible apply Bnd.setRow_other) | (with_reducible apply Bnd.alloc) | (simp; done) | omega | (simp; omega))))) rfl ⟨by rw [HO.out]; rfl, (by (repeat' (first | (with_reducible exact Below.refl _ _) | (with_reducible apply below_setRow) | (with_reducible apply Below.alloc) | (simp; done) | omega | (simp; omega))))⟩
  by_cases h1 : 10 < k
  · have HO : Hid (collarF s first r k = none) := hide (if_pos (.inr h1))
    clear tS hc
    go_enter Try.func49, Try.ntmps49
    go_wp2_with (first | ((with_reducible apply load_bnd); exact rfl; exact rfl; exact rfl; focus ((repeat' (first | (with_reducible assumption) | ((with_reducible apply Bnd.new'); simp; done) | (with_reducible apply Bnd.setRow) | (with_reducible apply Bnd.setRow_other) | (with_reducible apply Bnd.alloc) | (simp; done) | omega | (simp; omega))); done)) | ((with_reducible apply store_bnd); exact rfl; exact rfl; exact rfl; exact rfl; exact rfl; exact rfl; focus ((repeat' (first | (with_reducible assumption) | ((with_reducible apply Bnd.new'); simp; done) | (with_reducible apply Bnd.setRow) | (with_reducible apply Bnd.setRow_other) | (with_reducible apply Bnd.alloc) | (simp; done) | omega | (simp; omega))); done)) | ((with_reducible apply beq_step); exact rfl; exact rfl; exact rfl; exact rfl; simp only [Act.put, List.setIfInBounds_toArray, List.set_cons_zero, List.set_cons_succ]) | ((with_reducible apply bneq_step); exact rfl; exact rfl; exact rfl; exact rfl; simp only [Act.put, List.setIfInBounds_toArray, List.set_cons_zero, List.set_cons_succ]))
    exact bodyPost_ret (results_bnd_tmp rfl _ _ rfl (by (repeat' (first | (with_reducible assumption) | ((with_reducible apply Bnd.new'); simp; done) | (with_reducible apply Bnd.setRow) | (with_reducible apply Bnd.setRow_other) | (with_reducible apply Bnd.alloc) | (simp; done) | omega | (simp; omega))))) rfl ⟨by rw [HO.out]; rfl, (by (repeat' (first | (with_reducible exact Below.refl _ _) | (with_reducible apply below_setRow) | (with_reducible apply Below.alloc) | (simp; done) | omega | (simp; omega))))⟩
  have HO : Hid (collarF s first r k = withinF s first r (min (s 10 + k * s 11) 9999)) := hide (if_neg (by omega))
  obtain ⟨m0, m1⟩ := calm_mul hc (k := k) (by omega) (by omega)
  obtain ⟨b0, b1, -, -⟩ := hc
  have c0 := tS.cell 10 rfl
  have c1 := tS.cell 11 rfl
  go_enter Try.func49, Try.ntmps49
  go_wp2_with (first | ((with_reducible apply load_sym); exact rfl; exact rfl; exact rfl; focus ((repeat' (first | (with_reducible assumption) | ((with_reducible apply Sym.new'); simp; done) | (with_reducible apply Sym.setRow_other) | (with_reducible apply Sym.alloc) | (simp; done) | omega | (simp; omega))); done)) | first | ((with_reducible apply load_bnd); exact rfl; exact rfl; exact rfl; focus ((repeat' (first | (with_reducible assumption) | ((with_reducible apply Bnd.new'); simp; done) | (with_reducible apply Bnd.setRow) | (with_reducible apply Bnd.setRow_other) | (with_reducible apply Bnd.alloc) | (simp; done) | omega | (simp; omega))); done)) | ((with_reducible apply store_bnd); exact rfl; exact rfl; exact rfl; exact rfl; exact rfl; exact rfl; focus ((repeat' (first | (with_reducible assumption) | ((with_reducible apply Bnd.new'); simp; done) | (with_reducible apply Bnd.setRow) | (with_reducible apply Bnd.setRow_other) | (with_reducible apply Bnd.alloc) | (simp; done) | omega | (simp; omega))); done)) | ((with_reducible apply beq_step); exact rfl; exact rfl; exact rfl; exact rfl; simp only [Act.put, List.setIfInBounds_toArray, List.set_cons_zero, List.set_cons_succ]) | ((with_reducible apply bneq_step); exact rfl; exact rfl; exact rfl; exact rfl; simp only [Act.put, List.setIfInBounds_toArray, List.set_cons_zero, List.set_cons_succ]))
  (with_reducible refine (within_any s first r (min (s 10 + k * s 11) 9999) _ Hg.out).mono ?_)
  rintro e w1 ⟨rfl, hb⟩
  have tR : Bnd w1 (w.heap.size + 1) (.int .i64 0) (.int .i64 0) := Bnd.below (by (repeat' (first | (with_reducible assumption) | ((with_reducible apply Bnd.new'); simp; done) | (with_reducible apply Bnd.setRow) | (with_reducible apply Bnd.setRow_other) | (with_reducible apply Bnd.alloc) | (simp; done) | omega | (simp; omega)))) hb (by simp <;> omega)
  have B1 := hide (keep_below hb (by (repeat' (first | (with_reducible exact Below.refl _ _) | (with_reducible apply below_setRow) | (with_reducible apply Below.alloc) | (simp; done) | omega | (simp; omega)))) (by simp <;> omega) : Below w.heap.size w w1)
  clear hb
  dsimp only
  rw [optB_split]
  go_wp2_with (first | ((with_reducible apply load_bnd); exact rfl; exact rfl; exact rfl; focus ((repeat' (first | (with_reducible assumption) | ((with_reducible apply Bnd.new'); simp; done) | (with_reducible apply Bnd.setRow) | (with_reducible apply Bnd.setRow_other) | (with_reducible apply Bnd.alloc) | (simp; done) | omega | (simp; omega))); done)) | ((with_reducible apply store_bnd); exact rfl; exact rfl; exact rfl; exact rfl; exact rfl; exact rfl; focus ((repeat' (first | (with_reducible assumption) | ((with_reducible apply Bnd.new'); simp; done) | (with_reducible apply Bnd.setRow) | (with_reducible apply Bnd.setRow_other) | (with_reducible apply Bnd.alloc) | (simp; done) | omega | (simp; omega))); done)) | ((with_reducible apply beq_step); exact rfl; exact rfl; exact rfl; exact rfl; simp only [Act.put, List.setIfInBounds_toArray, List.set_cons_zero, List.set_cons_succ]) | ((with_reducible apply bneq_step); exact rfl; exact rfl; exact rfl; exact rfl; simp only [Act.put, List.setIfInBounds_toArray, List.set_cons_zero, List.set_cons_succ]))
  exact bodyPost_ret (results_bnd_tmp rfl _ _ rfl (by (repeat' (first | (with_reducible assumption) | ((with_reducible apply Bnd.new'); simp; done) | (with_reducible apply Bnd.setRow) | (with_reducible apply Bnd.setRow_other) | (with_reducible apply Bnd.alloc) | (simp; done) | omega | (simp; omega))))) rfl ⟨by rw [HO.out, optB_split]; rfl, below_setRow B1.out (by omega) _⟩
set_option maxRecDepth 100000 in
set_option maxHeartbeats 4000000 in
theorem refof_any (s : Nat → Int) (first r : Int) (w : World) (hg : okI (s 0)) :
    Calls Try.prog 78 #[.agg (symA s), .int .i64 first, .int .i64 r] w fun e w' => e = .returned (optB (withinF s first r (s 3))) ∧ Below w.heap.size w w' := by
  have Hg := hide hg
  clear hg
  go_enter Try.func78, Try.ntmps78
  go_wp2_with (first | ((with_reducible apply load_sym); exact rfl; exact rfl; exact rfl; focus ((repeat' (first | (with_reducible assumption) | ((with_reducible apply Sym.new'); simp; done) | (with_reducible apply Sym.setRow_other) | (with_reducible apply Sym.alloc) | (simp; done) | omega | (simp; omega))); done)) | first | ((with_reducible apply load_bnd); exact rfl; exact rfl; exact rfl; focus ((repeat' (first | (with_reducible assumption) | ((with_reducible apply Bnd.new'); simp; done) | (with_reducible apply Bnd.setRow) | (with_reducible apply Bnd.setRow_other) | (with_reducible apply Bnd.alloc) | (simp; done) | omega | (simp; omega))); done)) | ((with_reducible apply store_bnd); exact rfl; exact rfl; exact rfl; exact rfl; exact rfl; exact rfl; focus ((repeat' (first | (with_reducible assumption) | ((with_reducible apply Bnd.new'); simp; done) | (with_reducible apply Bnd.setRow) | (with_reducible apply Bnd.setRow_other) | (with_reducible apply Bnd.alloc) | (simp; done) | omega | (simp; omega))); done)) | ((with_reducible apply beq_step); exact rfl; exact rfl; exact rfl; exact rfl; simp only [Act.put, List.setIfInBounds_toArray, List.set_cons_zero, List.set_cons_succ]) | ((with_reducible apply bneq_step); exact rfl; exact rfl; exact rfl; exact rfl; simp only [Act.put, List.setIfInBounds_toArray, List.set_cons_zero, List.set_cons_succ]))
  (with_reducible refine (refstatic_any s first _ Hg.out).mono ?_)
  rintro e w1 ⟨rfl, hb⟩
  have tS : Sym w1 w.heap.size s := Sym.below (by (repeat' (first | (with_reducible assumption) | ((with_reducible apply Sym.new'); simp; done) | (with_reducible apply Sym.setRow_other) | (with_reducible apply Sym.alloc) | (simp; done) | omega | (simp; omega)))) hb (by simp <;> omega)
  have l0 := tS.lt
  have tR : Bnd w1 (w.heap.size + 1) (.int .i64 0) (.int .i64 0) := Bnd.below (by (repeat' (first | (with_reducible assumption) | ((with_reducible apply Bnd.new'); simp; done) | (with_reducible apply Bnd.setRow) | (with_reducible apply Bnd.setRow_other) | (with_reducible apply Bnd.alloc) | (simp; done) | omega | (simp; omega)))) hb (by simp <;> omega)
  have B1 := hide (keep_below hb (by (repeat' (first | (with_reducible exact Below.refl _ _) | (with_reducible apply below_setRow) | (with_reducible apply Below.alloc) | (simp; done) | omega | (simp; omega)))) (by simp <;> omega) : Below w.heap.size w w1)
  clear hb
  dsimp only
  obtain ⟨O1, hO1⟩ : ∃ O, O = bandF first (s 2) (s 0) := ⟨_, rfl⟩
  rw [← hO1, optB_split]
  have HO1 := hide hO1
  clear hO1
  generalize hx : (O1.getD (0, 0)).1 = x at *
  generalize hy : (O1.getD (0, 0)).2 = y at *
  go_wp2_with (first | ((with_reducible apply load_sym); exact rfl; exact rfl; exact rfl; focus ((repeat' (first | (with_reducible assumption) | ((with_reducible apply Sym.new'); simp; done) | (with_reducible apply Sym.setRow_other) | (with_reducible apply Sym.alloc) | (simp; done) | omega | (simp; omega))); done)) | first | ((with_reducible apply load_bnd); exact rfl; exact rfl; exact rfl; focus ((repeat' (first | (with_reducible assumption) | ((with_reducible apply Bnd.new'); simp; done) | (with_reducible apply Bnd.setRow) | (with_reducible apply Bnd.setRow_other) | (with_reducible apply Bnd.alloc) | (simp; done) | omega | (simp; omega))); done)) | ((with_reducible apply store_bnd); exact rfl; exact rfl; exact rfl; exact rfl; exact rfl; exact rfl; focus ((repeat' (first | (with_reducible assumption) | ((with_reducible apply Bnd.new'); simp; done) | (with_reducible apply Bnd.setRow) | (with_reducible apply Bnd.setRow_other) | (with_reducible apply Bnd.alloc) | (simp; done) | omega | (simp; omega))); done)) | ((with_reducible apply beq_step); exact rfl; exact rfl; exact rfl; exact rfl; simp only [Act.put, List.setIfInBounds_toArray, List.set_cons_zero, List.set_cons_succ]) | ((with_reducible apply bneq_step); exact rfl; exact rfl; exact rfl; exact rfl; simp only [Act.put, List.setIfInBounds_toArray, List.set_cons_zero, List.set_cons_succ]))
  (with_reducible refine (refdynamic_any s r _ Hg.out).mono ?_)
  rintro e w2 ⟨rfl, hb⟩
  have l1 := tR.lt
  have tA : Bnd w2 w1.heap.size (.int .i64 x) (.int .i64 y) := Bnd.below (by (repeat' (first | (with_reducible assumption) | ((with_reducible apply Bnd.new'); simp; done) | (with_reducible apply Bnd.setRow) | (with_reducible apply Bnd.setRow_other) | (with_reducible apply Bnd.alloc) | (simp; done) | omega | (simp; omega)))) hb (by simp <;> omega)
  have tR2 : Bnd w2 (w.heap.size + 1) (.int .i64 0) (.int .i64 0) := Bnd.below (by (repeat' (first | (with_reducible assumption) | ((with_reducible apply Bnd.new'); simp; done) | (with_reducible apply Bnd.setRow) | (with_reducible apply Bnd.setRow_other) | (with_reducible apply Bnd.alloc) | (simp; done) | omega | (simp; omega)))) hb (by have := tR.lt; simp <;> omega)
  have B2 := hide (B1.out.trans ((keep_below hb (by (repeat' (first | (with_reducible exact Below.refl _ _) | (with_reducible apply below_setRow) | (with_reducible apply Below.alloc) | (simp; done) | omega | (simp; omega)))) (by simp <;> omega) : Below w1.heap.size w1 w2).mono B1.out.size))
  clear hb B1 tS tR
  dsimp only
  obtain ⟨O2, hO2⟩ : ∃ O, O = bandF r (s 3) (s 0) := ⟨_, rfl⟩
  rw [← hO2, optB_split]
  have HO2 := hide hO2
  clear hO2
  generalize hu : (O2.getD (0, 0)).1 = u at *
  generalize hv : (O2.getD (0, 0)).2 = v at *
  have l2 := tA.lt
  cases O1 with
  | none =>
    have HO : Hid (withinF s first r (s 3) = none) := hide (by unfold withinF; rw [← HO1.out]; rfl)
    have e1 : (none : Option (Int × Int)).isSome = false := rfl
    go_wp2_with (first | ((with_reducible apply load_sym); exact rfl; exact rfl; exact rfl; focus ((repeat' (first | (with_reducible assumption) | ((with_reducible apply Sym.new'); simp; done) | (with_reducible apply Sym.setRow_other) | (with_reducible apply Sym.alloc) | (simp; done) | omega | (simp; omega))); done)) | first | ((with_reducible apply load_bnd); exact rfl; exact rfl; exact rfl; focus ((repeat' (first | (with_reducible assumption) | ((with_reducible apply Bnd.new'); simp; done) | (with_reducible apply Bnd.setRow) | (with_reducible apply Bnd.setRow_other) | (with_reducible apply Bnd.alloc) | (simp; done) | omega | (simp; omega))); done)) | ((with_reducible apply store_bnd); exact rfl; exact rfl; exact rfl; exact rfl; exact rfl; exact rfl; focus ((repeat' (first | (with_reducible assumption) | ((with_reducible apply Bnd.new'); simp; done) | (with_reducible apply Bnd.setRow) | (with_reducible apply Bnd.setRow_other) | (with_reducible apply Bnd.alloc) | (simp; done) | omega | (simp; omega))); done)) | ((with_reducible apply beq_step); exact rfl; exact rfl; exact rfl; exact rfl; simp only [Act.put, List.setIfInBounds_toArray, List.set_cons_zero, List.set_cons_succ]) | ((with_reducible apply bneq_step); exact rfl; exact rfl; exact rfl; exact rfl; simp only [Act.put, List.setIfInBounds_toArray, List.set_cons_zero, List.set_cons_succ]))
    exact bodyPost_ret (results_bnd_tmp rfl _ _ rfl (by (repeat' (first | (with_reducible assumption) | ((with_reducible apply Bnd.new'); simp; done) | (with_reducible apply Bnd.setRow) | (with_reducible apply Bnd.setRow_other) | (with_reducible apply Bnd.alloc) | (simp; done) | omega | (simp; omega))))) rfl ⟨by rw [HO.out]; rfl, below_setRow (below_setRow (B2.out.alloc B2.out.size _) B2.out.size _) (by omega) _⟩
  | some p =>
    cases O2 with
    | none =>
      have HO : Hid (withinF s first r (s 3) = none) := hide (by unfold withinF; rw [← HO1.out, ← HO2.out]; rfl)
      go_wp2_with (first | ((with_reducible apply load_sym); exact rfl; exact rfl; exact rfl; focus ((repeat' (first | (with_reducible assumption) | ((with_reducible apply Sym.new'); simp; done) | (with_reducible apply Sym.setRow_other) | (with_reducible apply Sym.alloc) | (simp; done) | omega | (simp; omega))); done)) | first | ((with_reducible apply load_bnd); exact rfl; exact rfl; exact rfl; focus ((repeat' (first | (with_reducible assumption) | ((with_reducible apply Bnd.new'); simp; done) | (with_reducible apply Bnd.setRow) | (with_reducible apply Bnd.setRow_other) | (with_reducible apply Bnd.alloc) | (simp; done) | omega | (simp; omega))); done)) | ((with_reducible apply store_bnd); exact rfl; exact rfl; exact rfl; exact rfl; exact rfl; exact rfl; focus ((repeat' (first | (with_reducible assumption) | ((with_reducible apply Bnd.new'); simp; done) | (with_reducible apply Bnd.setRow) | (with_reducible apply Bnd.setRow_other) | (with_reducible apply Bnd.alloc) | (simp; done) | omega | (simp; omega))); done)) | ((with_reducible apply beq_step); exact rfl; exact rfl; exact rfl; exact rfl; simp only [Act.put, List.setIfInBounds_toArray, List.set_cons_zero, List.set_cons_succ]) | ((with_reducible apply bneq_step); exact rfl; exact rfl; exact rfl; exact rfl; simp only [Act.put, List.setIfInBounds_toArray, List.set_cons_zero, List.set_cons_succ]))
      exact bodyPost_ret (results_bnd_tmp rfl _ _ rfl (by (repeat' (first | (with_reducible assumption) | ((with_reducible apply Bnd.new'); simp; done) | (with_reducible apply Bnd.setRow) | (with_reducible apply Bnd.setRow_other) | (with_reducible apply Bnd.alloc) | (simp; done) | omega | (simp; omega))))) rfl ⟨by rw [HO.out]; rfl, below_setRow (below_setRow (B2.out.alloc B2.out.size _) B2.out.size _) (by omega) _⟩
    | some q =>
      have HO : Hid (withinF s first r (s 3) = some (bothP p q)) := hide (by unfold withinF; rw [← HO1.out, ← HO2.out]; rfl)
      have hp : p = (x, y) := by rw [← hx, ← hy]; rfl
      have hq : q = (u, v) := by rw [← hu, ← hv]; rfl
      have HP := hide hp
      have HQ := hide hq
      clear hx hy hu hv hp hq
      go_wp2_with (first | ((with_reducible apply load_sym); exact rfl; exact rfl; exact rfl; focus ((repeat' (first | (with_reducible assumption) | ((with_reducible apply Sym.new'); simp; done) | (with_reducible apply Sym.setRow_other) | (with_reducible apply Sym.alloc) | (simp; done) | omega | (simp; omega))); done)) | first | ((with_reducible apply load_bnd); exact rfl; exact rfl; exact rfl; focus ((repeat' (first | (with_reducible assumption) | ((with_reducible apply Bnd.new'); simp; done) | (with_reducible apply Bnd.setRow) | (with_reducible apply Bnd.setRow_other) | (with_reducible apply Bnd.alloc) | (simp; done) | omega | (simp; omega))); done)) | ((with_reducible apply store_bnd); exact rfl; exact rfl; exact rfl; exact rfl; exact rfl; exact rfl; focus ((repeat' (first | (with_reducible assumption) | ((with_reducible apply Bnd.new'); simp; done) | (with_reducible apply Bnd.setRow) | (with_reducible apply Bnd.setRow_other) | (with_reducible apply Bnd.alloc) | (simp; done) | omega | (simp; omega))); done)) | ((with_reducible apply beq_step); exact rfl; exact rfl; exact rfl; exact rfl; simp only [Act.put, List.setIfInBounds_toArray, List.set_cons_zero, List.set_cons_succ]) | ((with_reducible apply bneq_step); exact rfl; exact rfl; exact rfl; exact rfl; simp only [Act.put, List.setIfInBounds_toArray, List.set_cons_zero, List.set_cons_succ]))
      (with_reducible refine (refboth_any x y u v _).mono ?_)
      rintro e w3 ⟨rfl, hb⟩
      have tR3 : Bnd w3 (w.heap.size + 1) (.int .i64 0) (.int .i64 0) := Bnd.below (by (repeat' (first | (with_reducible assumption) | ((with_reducible apply Bnd.new'); simp; done) | (with_reducible apply Bnd.setRow) | (with_reducible apply Bnd.setRow_other) | (with_reducible apply Bnd.alloc) | (simp; done) | omega | (simp; omega)))) hb (by simp <;> omega)
      have B3 := hide (B2.out.trans ((keep_below hb (by (repeat' (first | (with_reducible exact Below.refl _ _) | (with_reducible apply below_setRow) | (with_reducible apply Below.alloc) | (simp; done) | omega | (simp; omega)))) (by simp <;> omega) : Below w2.heap.size w2 w3).mono B2.out.size))
      clear hb tR2 tA
      dsimp only
      have l3 := tR3.lt
      go_wp2_with (first | ((with_reducible apply load_sym); exact rfl; exact rfl; exact rfl; focus ((repeat' (first | (with_reducible assumption) | ((with_reducible apply Sym.new'); simp; done) | (with_reducible apply Sym.setRow_other) | (with_reducible apply Sym.alloc) | (simp; done) | omega | (simp; omega))); done)) | first | ((with_reducible apply load_bnd); exact rfl; exact rfl; exact rfl; focus ((repeat' (first | (with_reducible assumption) | ((with_reducible apply Bnd.new'); simp; done) | (with_reducible apply Bnd.setRow) | (with_reducible apply Bnd.setRow_other) | (with_reducible apply Bnd.alloc) | (simp; done) | omega | (simp; omega))); done)) | ((with_reducible apply store_bnd); exact rfl; exact rfl; exact rfl; exact rfl; exact rfl; exact rfl; focus ((repeat' (first | (with_reducible assumption) | ((with_reducible apply Bnd.new'); simp; done) | (with_reducible apply Bnd.setRow) | (with_reducible apply Bnd.setRow_other) | (with_reducible apply Bnd.alloc) | (simp; done) | omega | (simp; omega))); done)) | ((with_reducible apply beq_step); exact rfl; exact rfl; exact rfl; exact rfl; simp only [Act.put, List.setIfInBounds_toArray, List.set_cons_zero, List.set_cons_succ]) | ((with_reducible apply bneq_step); exact rfl; exact rfl; exact rfl; exact rfl; simp only [Act.put, List.setIfInBounds_toArray, List.set_cons_zero, List.set_cons_succ]))
      exact bodyPost_ret (results_bnd_tmp rfl _ _ rfl (by (repeat' (first | (with_reducible assumption) | ((with_reducible apply Bnd.new'); simp; done) | (with_reducible apply Bnd.setRow) | (with_reducible apply Bnd.setRow_other) | (with_reducible apply Bnd.alloc) | (simp; done) | omega | (simp; omega))))) rfl ⟨by rw [HO.out, HP.out, HQ.out]; rfl, below_setRow B3.out (by omega) _⟩
set_option maxRecDepth 100000 in
set_option maxHeartbeats 4000000 in
theorem refcollar_any (s : Nat → Int) (first r k : Int) (w : World) (hg : okI (s 0)) (hc : calmP s) :
    Calls Try.prog 79 #[.agg (symA s), .int .i64 first, .int .i64 r, .int .i64 k] w fun e w' => e = .returned (optB (collarF s first r k)) ∧ Below w.heap.size w w' := by
  have Hg := hide hg
  clear hg
  have tS : Sym ((w.alloc (.cells (symA s) 49)).alloc (.cells #[.int .i64 0, .int .i64 0] 53)) w.heap.size s := (Sym.new w s).alloc _
  by_cases h0 : k < 0
  · have HO : Hid (collarF s first r k = none) := hide (if_pos (.inl h0))
    clear tS hc
    go_enter Try.func79, Try.ntmps79
    go_wp2_with (first | ((with_reducible apply load_bnd); exact rfl; exact rfl; exact rfl; focus ((repeat' (first | (with_reducible assumption) | ((with_reducible apply Bnd.new'); simp; done) | (with_reducible apply Bnd.setRow) | (with_reducible apply Bnd.setRow_other) | (with_reducible apply Bnd.alloc) | (simp; done) | omega | (simp; omega))); done)) | ((with_reducible apply store_bnd); exact rfl; exact rfl; exact rfl; exact rfl; exact rfl; exact rfl; focus ((repeat' (first | (with_reducible assumption) | ((with_reducible apply Bnd.new'); simp; done) | (with_reducible apply Bnd.setRow) | (with_reducible apply Bnd.setRow_other) | (with_reducible apply Bnd.alloc) | (simp; done) | omega | (simp; omega))); done)) | ((with_reducible apply beq_step); exact rfl; exact rfl; exact rfl; exact rfl; simp only [Act.put, List.setIfInBounds_toArray, List.set_cons_zero, List.set_cons_succ]) | ((with_reducible apply bneq_step); exact rfl; exact rfl; exact rfl; exact rfl; simp only [Act.put, List.setIfInBounds_toArray, List.set_cons_zero, List.set_cons_succ]))
    exact bodyPost_ret (results_bnd_tmp rfl _ _ rfl (by (repeat' (first | (with_reducible assumption) | ((with_reducible apply Bnd.new'); simp; done) | (with_reducible apply Bnd.setRow) | (with_reducible apply Bnd.setRow_other) | (with_reducible apply Bnd.alloc) | (simp; done) | omega | (simp; omega))))) rfl ⟨by rw [HO.out]; rfl, (by (repeat' (first | (with_reducible exact Below.refl _ _) | (with_reducible apply below_setRow) | (with_reducible apply Below.alloc) | (simp; done) | omega | (simp; omega))))⟩
  by_cases h1 : 10 < k
  · have HO : Hid (collarF s first r k = none) := hide (if_pos (.inr h1))
    clear tS hc
    go_enter Try.func79, Try.ntmps79
    go_wp2_with (first | ((with_reducible apply load_bnd); exact rfl; exact rfl; exact rfl; focus ((repeat' (first | (with_reducible assumption) | ((with_reducible apply Bnd.new'); simp; done) | (with_reducible apply Bnd.setRow) | (with_reducible apply Bnd.setRow_other) | (with_reducible apply Bnd.alloc) | (simp; done) | omega | (simp; omega))); done)) | ((with_reducible apply store_bnd); exact rfl; exact rfl; exact rfl; exact rfl; exact rfl; exact rfl; focus ((repeat' (first | (with_reducible assumption) | ((with_reducible apply Bnd.new'); simp; done) | (with_reducible apply Bnd.setRow) | (with_reducible apply Bnd.setRow_other) | (with_reducible apply Bnd.alloc) | (simp; done) | omega | (simp; omega))); done)) | ((with_reducible apply beq_step); exact rfl; exact rfl; exact rfl; exact rfl; simp only [Act.put, List.setIfInBounds_toArray, List.set_cons_zero, List.set_cons_succ]) | ((with_reducible apply bneq_step); exact rfl; exact rfl; exact rfl; exact rfl; simp only [Act.put, List.setIfInBounds_toArray, List.set_cons_zero, List.set_cons_succ]))
    exact bodyPost_ret (results_bnd_tmp rfl _ _ rfl (by (repeat' (first | (with_reducible assumption) | ((with_reducible apply Bnd.new'); simp; done) | (with_reducible apply Bnd.setRow) | (with_reducible apply Bnd.setRow_other) | (with_reducible apply Bnd.alloc) | (simp; done) | omega | (simp; omega))))) rfl ⟨by rw [HO.out]; rfl, (by (repeat' (first | (with_reducible exact Below.refl _ _) | (with_reducible apply below_setRow) | (with_reducible apply Below.alloc) | (simp; done) | omega | (simp; omega))))⟩
  have HF0 : Hid (collarF s first r k = withinF s first r (min (s 10 + k * s 11) 9999)) := hide (if_neg (by omega))
  obtain ⟨m0, m1⟩ := calm_mul hc (k := k) (by omega) (by omega)
  obtain ⟨b0, b1, b2, b3⟩ := hc
  have c0 := tS.cell 10 rfl
  have c1 := tS.cell 11 rfl
  clear tS
  go_enter Try.func79, Try.ntmps79
  go_wp2_with (first | ((with_reducible apply load_sym); exact rfl; exact rfl; exact rfl; focus ((repeat' (first | (with_reducible assumption) | ((with_reducible apply Sym.new'); simp; done) | (with_reducible apply Sym.setRow_other) | (with_reducible apply Sym.alloc) | (simp; done) | omega | (simp; omega))); done)) | first | ((with_reducible apply load_bnd); exact rfl; exact rfl; exact rfl; focus ((repeat' (first | (with_reducible assumption) | ((with_reducible apply Bnd.new'); simp; done) | (with_reducible apply Bnd.setRow) | (with_reducible apply Bnd.setRow_other) | (with_reducible apply Bnd.alloc) | (simp; done) | omega | (simp; omega))); done)) | ((with_reducible apply store_bnd); exact rfl; exact rfl; exact rfl; exact rfl; exact rfl; exact rfl; focus ((repeat' (first | (with_reducible assumption) | ((with_reducible apply Bnd.new'); simp; done) | (with_reducible apply Bnd.setRow) | (with_reducible apply Bnd.setRow_other) | (with_reducible apply Bnd.alloc) | (simp; done) | omega | (simp; omega))); done)) | ((with_reducible apply beq_step); exact rfl; exact rfl; exact rfl; exact rfl; simp only [Act.put, List.setIfInBounds_toArray, List.set_cons_zero, List.set_cons_succ]) | ((with_reducible apply bneq_step); exact rfl; exact rfl; exact rfl; exact rfl; simp only [Act.put, List.setIfInBounds_toArray, List.set_cons_zero, List.set_cons_succ]))
  (with_reducible refine (refstatic_any s first _ Hg.out).mono ?_)
  clear c0 c1
  rintro e w1 ⟨rfl, hb⟩
  have tS : Sym w1 w.heap.size s := Sym.below (by (repeat' (first | (with_reducible assumption) | ((with_reducible apply Sym.new'); simp; done) | (with_reducible apply Sym.setRow_other) | (with_reducible apply Sym.alloc) | (simp; done) | omega | (simp; omega)))) hb (by simp <;> omega)
  have l0 := tS.lt
  have tR : Bnd w1 (w.heap.size + 1) (.int .i64 0) (.int .i64 0) := Bnd.below (by (repeat' (first | (with_reducible assumption) | ((with_reducible apply Bnd.new'); simp; done) | (with_reducible apply Bnd.setRow) | (with_reducible apply Bnd.setRow_other) | (with_reducible apply Bnd.alloc) | (simp; done) | omega | (simp; omega)))) hb (by simp <;> omega)
  have B1 := hide (keep_below hb (by (repeat' (first | (with_reducible exact Below.refl _ _) | (with_reducible apply below_setRow) | (with_reducible apply Below.alloc) | (simp; done) | omega | (simp; omega)))) (by simp <;> omega) : Below w.heap.size w w1)
  clear hb
  dsimp only
  obtain ⟨O1, hO1⟩ : ∃ O, O = bandF first (s 2) (s 0) := ⟨_, rfl⟩
  rw [← hO1, optB_split]
  have HO1 := hide hO1
  clear hO1
  generalize hx : (O1.getD (0, 0)).1 = x at *
  generalize hy : (O1.getD (0, 0)).2 = y at *
  have nS := (tS.alloc (.cells #[.int .i64 0, .int .i64 0] 53)).setRow_other (c := w1.heap.size) #[.int .i64 x, .int .i64 y] (Nat.ne_of_lt tS.lt)
  have d10 := nS.cell 10 rfl
  have d11 := nS.cell 11 rfl
  have d0 := nS.cell 0 rfl
  clear nS
  go_wp2_with (first | ((with_reducible apply load_sym); exact rfl; exact rfl; exact rfl; focus ((repeat' (first | (with_reducible assumption) | ((with_reducible apply Sym.new'); simp; done) | (with_reducible apply Sym.setRow_other) | (with_reducible apply Sym.alloc) | (simp; done) | omega | (simp; omega))); done)) | first | ((with_reducible apply load_bnd); exact rfl; exact rfl; exact rfl; focus ((repeat' (first | (with_reducible assumption) | ((with_reducible apply Bnd.new'); simp; done) | (with_reducible apply Bnd.setRow) | (with_reducible apply Bnd.setRow_other) | (with_reducible apply Bnd.alloc) | (simp; done) | omega | (simp; omega))); done)) | ((with_reducible apply store_bnd); exact rfl; exact rfl; exact rfl; exact rfl; exact rfl; exact rfl; focus ((repeat' (first | (with_reducible assumption) | ((with_reducible apply Bnd.new'); simp; done) | (with_reducible apply Bnd.setRow) | (with_reducible apply Bnd.setRow_other) | (with_reducible apply Bnd.alloc) | (simp; done) | omega | (simp; omega))); done)) | ((with_reducible apply beq_step); exact rfl; exact rfl; exact rfl; exact rfl; simp only [Act.put, List.setIfInBounds_toArray, List.set_cons_zero, List.set_cons_succ]) | ((with_reducible apply bneq_step); exact rfl; exact rfl; exact rfl; exact rfl; simp only [Act.put, List.setIfInBounds_toArray, List.set_cons_zero, List.set_cons_succ]))
  (with_reducible refine (refaround_any r (min (s 10 + k * s 11) 9999) (s 0) _ Hg.out).mono ?_)
  rintro e w2 ⟨rfl, hb⟩
  have l1 := tR.lt
  have tA : Bnd w2 w1.heap.size (.int .i64 x) (.int .i64 y) := Bnd.below (by (repeat' (first | (with_reducible assumption) | ((with_reducible apply Bnd.new'); simp; done) | (with_reducible apply Bnd.setRow) | (with_reducible apply Bnd.setRow_other) | (with_reducible apply Bnd.alloc) | (simp; done) | omega | (simp; omega)))) hb (by simp <;> omega)
  have tR2 : Bnd w2 (w.heap.size + 1) (.int .i64 0) (.int .i64 0) := Bnd.below (by (repeat' (first | (with_reducible assumption) | ((with_reducible apply Bnd.new'); simp; done) | (with_reducible apply Bnd.setRow) | (with_reducible apply Bnd.setRow_other) | (with_reducible apply Bnd.alloc) | (simp; done) | omega | (simp; omega)))) hb (by have := tR.lt; simp <;> omega)
  have B2 := hide (B1.out.trans ((keep_below hb (by (repeat' (first | (with_reducible exact Below.refl _ _) | (with_reducible apply below_setRow) | (with_reducible apply Below.alloc) | (simp; done) | omega | (simp; omega)))) (by simp <;> omega) : Below w1.heap.size w1 w2).mono B1.out.size))
  clear hb B1 tS tR d10 d11 d0
  dsimp only
  obtain ⟨O2, hO2⟩ : ∃ O, O = bandF r (min (s 10 + k * s 11) 9999) (s 0) := ⟨_, rfl⟩
  rw [← hO2, optB_split]
  have HO2 := hide hO2
  clear hO2
  generalize hu : (O2.getD (0, 0)).1 = u at *
  generalize hv : (O2.getD (0, 0)).2 = v at *
  have l2 := tA.lt
  have HF : Hid (collarF s first r k = withinF s first r (min (s 10 + k * s 11) 9999)) := hide HF0.out
  cases O1 with
  | none =>
    have HO : Hid (withinF s first r (min (s 10 + k * s 11) 9999) = none) := hide (by unfold withinF; rw [← HO1.out]; rfl)
    have e1 : (none : Option (Int × Int)).isSome = false := rfl
    go_wp2_with (first | ((with_reducible apply load_sym); exact rfl; exact rfl; exact rfl; focus ((repeat' (first | (with_reducible assumption) | ((with_reducible apply Sym.new'); simp; done) | (with_reducible apply Sym.setRow_other) | (with_reducible apply Sym.alloc) | (simp; done) | omega | (simp; omega))); done)) | first | ((with_reducible apply load_bnd); exact rfl; exact rfl; exact rfl; focus ((repeat' (first | (with_reducible assumption) | ((with_reducible apply Bnd.new'); simp; done) | (with_reducible apply Bnd.setRow) | (with_reducible apply Bnd.setRow_other) | (with_reducible apply Bnd.alloc) | (simp; done) | omega | (simp; omega))); done)) | ((with_reducible apply store_bnd); exact rfl; exact rfl; exact rfl; exact rfl; exact rfl; exact rfl; focus ((repeat' (first | (with_reducible assumption) | ((with_reducible apply Bnd.new'); simp; done) | (with_reducible apply Bnd.setRow) | (with_reducible apply Bnd.setRow_other) | (with_reducible apply Bnd.alloc) | (simp; done) | omega | (simp; omega))); done)) | ((with_reducible apply beq_step); exact rfl; exact rfl; exact rfl; exact rfl; simp only [Act.put, List.setIfInBounds_toArray, List.set_cons_zero, List.set_cons_succ]) | ((with_reducible apply bneq_step); exact rfl; exact rfl; exact rfl; exact rfl; simp only [Act.put, List.setIfInBounds_toArray, List.set_cons_zero, List.set_cons_succ]))
    exact bodyPost_ret (results_bnd_tmp rfl _ _ rfl (by (repeat' (first | (with_reducible assumption) | ((with_reducible apply Bnd.new'); simp; done) | (with_reducible apply Bnd.setRow) | (with_reducible apply Bnd.setRow_other) | (with_reducible apply Bnd.alloc) | (simp; done) | omega | (simp; omega))))) rfl ⟨by rw [HF.out, HO.out]; rfl, below_setRow (below_setRow (B2.out.alloc B2.out.size _) B2.out.size _) (by omega) _⟩
  | some p =>
    cases O2 with
    | none =>
      have HO : Hid (withinF s first r (min (s 10 + k * s 11) 9999) = none) := hide (by unfold withinF; rw [← HO1.out, ← HO2.out]; rfl)
      go_wp2_with (first | ((with_reducible apply load_sym); exact rfl; exact rfl; exact rfl; focus ((repeat' (first | (with_reducible assumption) | ((with_reducible apply Sym.new'); simp; done) | (with_reducible apply Sym.setRow_other) | (with_reducible apply Sym.alloc) | (simp; done) | omega | (simp; omega))); done)) | first | ((with_reducible apply load_bnd); exact rfl; exact rfl; exact rfl; focus ((repeat' (first | (with_reducible assumption) | ((with_reducible apply Bnd.new'); simp; done) | (with_reducible apply Bnd.setRow) | (with_reducible apply Bnd.setRow_other) | (with_reducible apply Bnd.alloc) | (simp; done) | omega | (simp; omega))); done)) | ((with_reducible apply store_bnd); exact rfl; exact rfl; exact rfl; exact rfl; exact rfl; exact rfl; focus ((repeat' (first | (with_reducible assumption) | ((with_reducible apply Bnd.new'); simp; done) | (with_reducible apply Bnd.setRow) | (with_reducible apply Bnd.setRow_other) | (with_reducible apply Bnd.alloc) | (simp; done) | omega | (simp; omega))); done)) | ((with_reducible apply beq_step); exact rfl; exact rfl; exact rfl; exact rfl; simp only [Act.put, List.setIfInBounds_toArray, List.set_cons_zero, List.set_cons_succ]) | ((with_reducible apply bneq_step); exact rfl; exact rfl; exact rfl; exact rfl; simp only [Act.put, List.setIfInBounds_toArray, List.set_cons_zero, List.set_cons_succ]))
      exact bodyPost_ret (results_bnd_tmp rfl _ _ rfl (by (repeat' (first | (with_reducible assumption) | ((with_reducible apply Bnd.new'); simp; done) | (with_reducible apply Bnd.setRow) | (with_reducible apply Bnd.setRow_other) | (with_reducible apply Bnd.alloc) | (simp; done) | omega | (simp; omega))))) rfl ⟨by rw [HF.out, HO.out]; rfl, below_setRow (below_setRow (B2.out.alloc B2.out.size _) B2.out.size _) (by omega) _⟩
    | some q =>
      have HO : Hid (withinF s first r (min (s 10 + k * s 11) 9999) = some (bothP p q)) := hide (by unfold withinF; rw [← HO1.out, ← HO2.out]; rfl)
      have hp : p = (x, y) := by rw [← hx, ← hy]; rfl
      have hq : q = (u, v) := by rw [← hu, ← hv]; rfl
      have HP := hide hp
      have HQ := hide hq
      clear hx hy hu hv hp hq
      go_wp2_with (first | ((with_reducible apply load_sym); exact rfl; exact rfl; exact rfl; focus ((repeat' (first | (with_reducible assumption) | ((with_reducible apply Sym.new'); simp; done) | (with_reducible apply Sym.setRow_other) | (with_reducible apply Sym.alloc) | (simp; done) | omega | (simp; omega))); done)) | first | ((with_reducible apply load_bnd); exact rfl; exact rfl; exact rfl; focus ((repeat' (first | (with_reducible assumption) | ((with_reducible apply Bnd.new'); simp; done) | (with_reducible apply Bnd.setRow) | (with_reducible apply Bnd.setRow_other) | (with_reducible apply Bnd.alloc) | (simp; done) | omega | (simp; omega))); done)) | ((with_reducible apply store_bnd); exact rfl; exact rfl; exact rfl; exact rfl; exact rfl; exact rfl; focus ((repeat' (first | (with_reducible assumption) | ((with_reducible apply Bnd.new'); simp; done) | (with_reducible apply Bnd.setRow) | (with_reducible apply Bnd.setRow_other) | (with_reducible apply Bnd.alloc) | (simp; done) | omega | (simp; omega))); done)) | ((with_reducible apply beq_step); exact rfl; exact rfl; exact rfl; exact rfl; simp only [Act.put, List.setIfInBounds_toArray, List.set_cons_zero, List.set_cons_succ]) | ((with_reducible apply bneq_step); exact rfl; exact rfl; exact rfl; exact rfl; simp only [Act.put, List.setIfInBounds_toArray, List.set_cons_zero, List.set_cons_succ]))
      (with_reducible refine (refboth_any x y u v _).mono ?_)
      rintro e w3 ⟨rfl, hb⟩
      have tR3 : Bnd w3 (w.heap.size + 1) (.int .i64 0) (.int .i64 0) := Bnd.below (by (repeat' (first | (with_reducible assumption) | ((with_reducible apply Bnd.new'); simp; done) | (with_reducible apply Bnd.setRow) | (with_reducible apply Bnd.setRow_other) | (with_reducible apply Bnd.alloc) | (simp; done) | omega | (simp; omega)))) hb (by simp <;> omega)
      have B3 := hide (B2.out.trans ((keep_below hb (by (repeat' (first | (with_reducible exact Below.refl _ _) | (with_reducible apply below_setRow) | (with_reducible apply Below.alloc) | (simp; done) | omega | (simp; omega)))) (by simp <;> omega) : Below w2.heap.size w2 w3).mono B2.out.size))
      clear hb tR2 tA
      dsimp only
      have l3 := tR3.lt
      go_wp2_with (first | ((with_reducible apply load_sym); exact rfl; exact rfl; exact rfl; focus ((repeat' (first | (with_reducible assumption) | ((with_reducible apply Sym.new'); simp; done) | (with_reducible apply Sym.setRow_other) | (with_reducible apply Sym.alloc) | (simp; done) | omega | (simp; omega))); done)) | first | ((with_reducible apply load_bnd); exact rfl; exact rfl; exact rfl; focus ((repeat' (first | (with_reducible assumption) | ((with_reducible apply Bnd.new'); simp; done) | (with_reducible apply Bnd.setRow) | (with_reducible apply Bnd.setRow_other) | (with_reducible apply Bnd.alloc) | (simp; done) | omega | (simp; omega))); done)) | ((with_reducible apply store_bnd); exact rfl; exact rfl; exact rfl; exact rfl; exact rfl; exact rfl; focus ((repeat' (first | (with_reducible assumption) | ((with_reducible apply Bnd.new'); simp; done) | (with_reducible apply Bnd.setRow) | (with_reducible apply Bnd.setRow_other) | (with_reducible apply Bnd.alloc) | (simp; done) | omega | (simp; omega))); done)) | ((with_reducible apply beq_step); exact rfl; exact rfl; exact rfl; exact rfl; simp only [Act.put, List.setIfInBounds_toArray, List.set_cons_zero, List.set_cons_succ]) | ((with_reducible apply bneq_step); exact rfl; exact rfl; exact rfl; exact rfl; simp only [Act.put, List.setIfInBounds_toArray, List.set_cons_zero, List.set_cons_succ]))
      exact bodyPost_ret (results_bnd_tmp rfl _ _ rfl (by (repeat' (first | (with_reducible assumption) | ((with_reducible apply Bnd.new'); simp; done) | (with_reducible apply Bnd.setRow) | (with_reducible apply Bnd.setRow_other) | (with_reducible apply Bnd.alloc) | (simp; done) | omega | (simp; omega))))) rfl ⟨by rw [HF.out, HO.out, HP.out, HQ.out]; rfl, below_setRow B3.out (by omega) _⟩
instance (s : Nat → Int) : Decidable (calmP s) := by
  unfold calmP
  infer_instance
set_option maxRecDepth 100000 in
set_option maxHeartbeats 4000000 in
theorem calm_any (s : Nat → Int) (w : World) :
    Calls Try.prog 75 #[.agg (symA s)] w fun e w' => e = .returned (.bool (decide (calmP s))) ∧ Below w.heap.size w w' := by
  have tS : Sym (w.alloc (.cells (symA s) 49)) w.heap.size s := Sym.new w s
  have c0 := tS.cell 10 rfl
  have c1 := tS.cell 11 rfl
  clear tS
  by_cases h0 : -1073741824 ≤ s 10
  · by_cases h1 : s 10 ≤ 1073741824
    · by_cases h2 : -1073741824 ≤ s 11
      · by_cases h3 : s 11 ≤ 1073741824
        · rw [show decide (calmP s) = true from decide_eq_true ⟨h0, h1, h2, h3⟩]
          go_enter Try.func75, Try.ntmps75
          go_wp2
          go_ret
          exact ⟨rfl, (by (repeat' (first | (with_reducible exact Below.refl _ _) | (with_reducible apply below_setRow) | (with_reducible apply Below.alloc) | (simp; done) | omega | (simp; omega))))⟩
        · rw [show decide (calmP s) = false from decide_eq_false (fun h => h3 h.2.2.2)]
          go_enter Try.func75, Try.ntmps75
          go_wp2
          go_ret
          exact ⟨rfl, (by (repeat' (first | (with_reducible exact Below.refl _ _) | (with_reducible apply below_setRow) | (with_reducible apply Below.alloc) | (simp; done) | omega | (simp; omega))))⟩
      · rw [show decide (calmP s) = false from decide_eq_false (fun h => h2 h.2.2.1)]
        go_enter Try.func75, Try.ntmps75
        go_wp2
        go_ret
        exact ⟨rfl, (by (repeat' (first | (with_reducible exact Below.refl _ _) | (with_reducible apply below_setRow) | (with_reducible apply Below.alloc) | (simp; done) | omega | (simp; omega))))⟩
    · rw [show decide (calmP s) = false from decide_eq_false (fun h => h1 h.2.1)]
      go_enter Try.func75, Try.ntmps75
      go_wp2
      go_ret
      exact ⟨rfl, (by (repeat' (first | (with_reducible exact Below.refl _ _) | (with_reducible apply below_setRow) | (with_reducible apply Below.alloc) | (simp; done) | omega | (simp; omega))))⟩
  · rw [show decide (calmP s) = false from decide_eq_false (fun h => h0 h.1)]
    go_enter Try.func75, Try.ntmps75
    go_wp2
    go_ret
    exact ⟨rfl, (by (repeat' (first | (with_reducible exact Below.refl _ _) | (with_reducible apply below_setRow) | (with_reducible apply Below.alloc) | (simp; done) | omega | (simp; omega))))⟩
end Go.Proofs.Ytadilccdipcmnaa
