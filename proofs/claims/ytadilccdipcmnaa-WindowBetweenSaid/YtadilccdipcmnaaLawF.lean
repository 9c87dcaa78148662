/- The law WideBack: the walk. -/
import Derived.Test.YtadilccdipcmnaaLawE
import Derived.Test.YtadilccdipcmnaaReg2
namespace Go.Proofs.Ytadilccdipcmnaa
open Go Go.RowKit
attribute [local go_sem] field_two0 field_two1

theorem eqin_two (a b c d : Int) (w : World) : (Op.equalIn 10000 25 (.agg #[.int .u64 a, .int .u64 b]) (.agg #[.int .u64 c, .int .u64 d])).run Try.prog w = .ok (a == c && b == d) w := by
  have h := eq_two a b c d w
  rw [run_eql_struct] at h
  generalize (Op.equalIn 10000 25 (.agg #[.int .u64 a, .int .u64 b]) (.agg #[.int .u64 c, .int .u64 d])).run Try.prog w = r at h
  cases r with
  | ok x w' =>
    simp only [Result.andThen_ok, Result.ok.injEq, Value.bool.injEq] at h
    rw [h.1, h.2]
  | halt x w' => simp [Result.andThen] at h
theorem neq_two (a b c d : Int) (w : World) : (binOp .neq 25 (.agg #[.int .u64 a, .int .u64 b]) (.agg #[.int .u64 c, .int .u64 d])).run Try.prog w = .ok (.bool (!(a == c && b == d))) w := by
  rw [run_neq_struct, eqin_two]
  rfl
theorem neq_step {ops : Array Oper} {rest : List Oper} {o : Oper} {a : Act} {w : World} {Q : Exit → Act → World → Prop} {x y : Operand} {t : TypeId} {p q r s : Int} (hgd : o.guard = none) (ho : o.op = .binOp .neq 25 x y t) (hx : a.eval x = .agg #[.int .u64 p, .int .u64 q]) (hy : a.eval y = .agg #[.int .u64 r, .int .u64 s])
    (h : wpList Try.prog ops Q rest (a.put o.dst (.bool (!(p == r && q == s)))) w) : wpList Try.prog ops Q (o :: rest) a w :=
  wpList_plain hgd fun K hK => by
    unfold Oper.wp
    simp only [execOp, ho, hx, hy, Sem.run_bind, guard_two, neq_two, Result.andThen, Sem.run_pure]
    exact hK _ _ h

/-! Operations behind '&&' and '||' -/
section
variable {ops : Array Oper} {rest : List Oper} {o : Oper} {a : Act} {w : World} {Q : Exit → Act → World → Prop}
theorem step_val {v : Value} (hg : Region.wanted o (yielded ops a.tmps) = true) (hr : (execOp a.eval o).run Try.prog w = .ok (.value v) w) (h : wpList Try.prog ops Q rest (a.put o.dst v) w) : wpList Try.prog ops Q (o :: rest) a w :=
  wpList_step fun K hK => by
    rw [if_pos hg]
    unfold Oper.wp
    rw [hr]
    exact hK _ _ h
theorem exec_eq_two {t : TypeId} {x y : Operand} {p q r s : Int} (ho : o.op = .binOp .eql 25 x y t) (hx : a.eval x = .agg #[.int .u64 p, .int .u64 q]) (hy : a.eval y = .agg #[.int .u64 r, .int .u64 s]) : (execOp a.eval o).run Try.prog w = .ok (.value (.bool (p == r && q == s))) w := by
  simp only [execOp, ho, hx, hy, Sem.run_bind, guard_two, eq_two, Result.andThen, Sem.run_pure]
theorem exec_neq_two {t : TypeId} {x y : Operand} {p q r s : Int} (ho : o.op = .binOp .neq 25 x y t) (hx : a.eval x = .agg #[.int .u64 p, .int .u64 q]) (hy : a.eval y = .agg #[.int .u64 r, .int .u64 s]) : (execOp a.eval o).run Try.prog w = .ok (.value (.bool (!(p == r && q == s)))) w := by
  simp only [execOp, ho, hx, hy, Sem.run_bind, guard_two, neq_two, Result.andThen, Sem.run_pure]
theorem gload_two {p q : Value} {g : Nat} (hgd : Region.wanted o (yielded ops a.tmps) = true) (x : Operand) (ho : o.op = .load 25 x) (hx : a.eval x = .pointer (some ⟨g, 0, none⟩)) (hg : Two w g p q)
    (h : wpList Try.prog ops Q rest (a.put o.dst (.agg #[p, q])) w) : wpList Try.prog ops Q (o :: rest) a w := step_val hgd (exec_load_two x ho hx hg) h
theorem gload_row {f : Nat → Bool} {g : Nat} (hgd : Region.wanted o (yielded ops a.tmps) = true) (x : Operand) (ho : o.op = .load 28 x) (hx : a.eval x = .pointer (some ⟨g, 0, none⟩)) (hg : Row w g f)
    (h : wpList Try.prog ops Q rest (a.put o.dst (.agg (bf f))) w) : wpList Try.prog ops Q (o :: rest) a w := step_val hgd (exec_load_row x ho hx hg) h
theorem geq_two {t : TypeId} {x y : Operand} {p q r s : Int} (hgd : Region.wanted o (yielded ops a.tmps) = true) (ho : o.op = .binOp .eql 25 x y t) (hx : a.eval x = .agg #[.int .u64 p, .int .u64 q]) (hy : a.eval y = .agg #[.int .u64 r, .int .u64 s])
    (h : wpList Try.prog ops Q rest (a.put o.dst (.bool (p == r && q == s))) w) : wpList Try.prog ops Q (o :: rest) a w := step_val hgd (exec_eq_two ho hx hy) h
theorem gneq_two {t : TypeId} {x y : Operand} {p q r s : Int} (hgd : Region.wanted o (yielded ops a.tmps) = true) (ho : o.op = .binOp .neq 25 x y t) (hx : a.eval x = .agg #[.int .u64 p, .int .u64 q]) (hy : a.eval y = .agg #[.int .u64 r, .int .u64 s])
    (h : wpList Try.prog ops Q rest (a.put o.dst (.bool (!(p == r && q == s)))) w) : wpList Try.prog ops Q (o :: rest) a w := step_val hgd (exec_neq_two ho hx hy) h
end

/-- A number of two words is put together again from its quotient and its rest. -/
theorem back_math {V b : Int} (h0 : 0 ≤ V) (h : V < M128) (hb : 0 < b) :
    ∃ X Y, 0 ≤ X ∧ X < M128 ∧ 0 ≤ Y ∧ Y < M128 ∧ X + Y = V ∧ V / b % M64 * b + V % b = X ∧ lft (V / b / M64 * b) 64 = Y := by
  have e := Int.mul_ediv_add_emod V b
  have q0 : 0 ≤ V / b := Int.ediv_nonneg h0 (by omega)
  have r0 := Int.emod_nonneg V (show b ≠ 0 by omega)
  generalize V / b = Q at *
  generalize V % b = R at *
  have eQ : Q = Q / M64 * M64 + Q % M64 := by rw [M64_eq]; omega
  have qh : 0 ≤ Q / M64 := by rw [M64_eq]; omega
  have ql : 0 ≤ Q % M64 := by rw [M64_eq]; omega
  generalize Q / M64 = H at *
  generalize Q % M64 = L at *
  have e2 : b * Q = H * b * M64 + L * b := by
    rw [eQ, Int.mul_comm, Int.add_mul, Int.mul_right_comm]
  have h1 : 0 ≤ L * b := Int.mul_nonneg ql (by omega)
  have h2 : 0 ≤ H * b := Int.mul_nonneg qh (by omega)
  generalize L * b = S at *
  generalize H * b = T at *
  have hT : lft T 64 = T * M64 := by
    unfold lft
    rw [if_neg (by omega), if_neg (by omega)]
    rw [M64_eq] at *
    rw [M128_eq] at *
    show T * 2 ^ 64 % _ = _
    omega
  refine ⟨S + R, T * M64, ?_, ?_, ?_, ?_, ?_, rfl, hT⟩ <;> rw [M64_eq] at * <;> rw [M128_eq] at * <;> omega
theorem halves_pair (a b : Int) (hb : 0 ≤ b) (hb2 : b < M64) : wv a b / M64 = a ∧ wv a b % M64 = b := by
  unfold wv
  rw [M64_eq] at *
  omega
theorem mul_back {a b : Int} (hb : 0 < b) (ha : 0 ≤ a) (ha2 : a < M64) : a * b / b = a ∧ a * b % b = 0 ∧ a / M64 = 0 ∧ a % M64 = a :=
  ⟨Int.mul_ediv_cancel _ (by omega), Int.mul_emod_left _ _, Int.ediv_eq_zero_of_lt ha ha2, Int.emod_eq_of_lt ha ha2⟩
theorem wv_split {x : Int} : wv (x / M64) (x % M64) = x := by
  unfold wv
  rw [M64_eq]
  omega
/-- What the region of the last sum keeps: the quotient, the number, the first sum, and, once it is made, the second sum's variable. -/
def BackC (N n5 : Nat) (w0 : World) (H L a c x1 x2 : Value) (g : Nat → Bool) (m : Value) (w : World) : Prop :=
  Two w N H L ∧ Two w (N + 1) a c ∧ Two w n5 x1 x2 ∧ Below n5 w0 w ∧ (g 10 = true → ∃ k, m = .pointer (some ⟨k, 0, none⟩) ∧ n5 < k ∧ ∃ p q, Two w k p q ∧ (g 11 = true → p = a ∧ q = c))
theorem BackC.below {N n5 : Nat} {w0 : World} {H L a c x1 x2 : Value} {g : Nat → Bool} {m : Value} {w w' : World} (h : BackC N n5 w0 H L a c x1 x2 g m w) (hb : Below w.heap.size w w') : BackC N n5 w0 H L a c x1 x2 g m w' :=
  ⟨h.1.below hb h.1.lt, h.2.1.below hb h.2.1.lt, h.2.2.1.below hb h.2.2.1.lt, h.2.2.2.1.trans (hb.mono (Nat.le_of_lt h.2.2.1.lt)), fun hg => by
    obtain ⟨k, hk, hlt, p, q, hT, hf⟩ := h.2.2.2.2 hg
    exact ⟨k, hk, hlt, p, q, hT.below hb hT.lt, hf⟩⟩
theorem BackC.drew {N n5 : Nat} {w0 : World} {H L a c x1 x2 : Value} {g : Nat → Bool} {m : Value} {w : World} (h : BackC N n5 w0 H L a c x1 x2 g m w) : BackC N n5 w0 H L a c x1 x2 g m w.drew :=
  ⟨h.1, h.2.1, h.2.2.1, h.2.2.2.1.drew, h.2.2.2.2⟩

set_option maxRecDepth 100000 in
set_option maxHeartbeats 4000000 in
theorem wideBack_walk (a b c : Int) (w : World) (ha : 0 ≤ a) (ha2 : a < M64) (hb : 0 ≤ b) (hb2 : b < M64) (hc : 0 ≤ c) (hc2 : c < M64) :
    Calls Try.prog 7 #[.int .u64 a, .int .u64 b, .int .u64 c] w fun e w' => e = .returned (.bool true) ∧ Below w.heap.size w w' := by
  obtain ⟨p0, p1⟩ := mul_bd ha hb ha2 hb2
  obtain ⟨v0, v1⟩ := wv_bd ha hc ha2 hc2
  by_cases h0 : b = 0
  · subst h0
    clear hb hb2
    go_enter Try.func7, Try.ntmps7
    go_wp2_with (fail)
    (with_reducible refine (alive_any _).mono ?_)
    rintro e w1 ⟨rfl, hb1⟩
    dsimp only
    go_wp2
    go_ret
    exact ⟨rfl, hb1⟩
  · have hb0 : 0 < b := by omega
    have hne : (b == 0) = false := by simpa using h0
    clear h0
    have hq : 0 ≤ a * b / M64 ∧ a * b / M64 < M64 ∧ 0 ≤ a * b % M64 ∧ a * b % M64 < M64 := by rw [M64_eq]; rw [M128_eq] at p1; omega
    obtain ⟨q0, q1, q2, q3⟩ := hq
    have HB := hide (mul_back hb0 ha ha2)
    have HM := hide (back_math v0 v1 hb0)
    have HP := hide (halves_pair a c hc hc2)
    clear p0 p1
    go_enter Try.func7, Try.ntmps7
    go_wp2_with (fail)
    (with_reducible refine (mul_any a b _ ha hb ha2 hb2).mono ?_)
    rintro e w1 ⟨rfl, hb1⟩
    have B1 := hide hb1
    clear hb1
    dsimp only
    go_wp2_with (fail)
    (with_reducible refine (wdiv_any (a * b / M64) (a * b % M64) b _ q0 q2 q1 q3 hb0 hb2).mono ?_)
    rintro e w2 ⟨rfl, hb2'⟩
    have B2 := hide (B1.out.trans (hb2'.mono B1.out.size))
    clear hb2' B1 q0 q1 q2 q3
    dsimp only
    rw [wv_split, HB.out.1, HB.out.2.1, HB.out.2.2.1, HB.out.2.2.2]
    have e1 : (a == a) = true := by simp
    go_wp2_with (first | first | ((with_reducible apply load_row); exact rfl; exact rfl; exact rfl; focus ((repeat' (first | (with_reducible assumption) | ((with_reducible apply Row.zero'); simp; done) | ((with_reducible apply Row.new'); simp; done) | (with_reducible apply Row.setRow) | (with_reducible apply Row.setRow_other) | (with_reducible apply Row.alloc) | (with_reducible apply Row.drew) | (simp; done) | omega | (simp; omega))); done)) | ((with_reducible apply store_row); exact rfl; exact rfl; exact rfl; exact rfl; focus ((repeat' (first | (with_reducible assumption) | ((with_reducible apply Row.zero'); simp; done) | ((with_reducible apply Row.new'); simp; done) | (with_reducible apply Row.setRow) | (with_reducible apply Row.setRow_other) | (with_reducible apply Row.alloc) | (with_reducible apply Row.drew) | (simp; done) | omega | (simp; omega))); done)) | ((with_reducible apply load_two); exact rfl; exact rfl; exact rfl; focus ((repeat' (first | (with_reducible assumption) | ((with_reducible apply Two.new'); simp; done) | (with_reducible apply Two.setRow) | (with_reducible apply Two.setRow_other) | (with_reducible apply Two.alloc) | (simp; done) | omega | (simp; omega))); done)) | ((with_reducible apply store_two); exact rfl; exact rfl; exact rfl; exact rfl; exact rfl; exact rfl; focus ((repeat' (first | (with_reducible assumption) | ((with_reducible apply Two.new'); simp; done) | (with_reducible apply Two.setRow) | (with_reducible apply Two.setRow_other) | (with_reducible apply Two.alloc) | (simp; done) | omega | (simp; omega))); done)) | ((with_reducible apply eq_step); exact rfl; exact rfl; exact rfl; exact rfl; simp only [Act.put, List.setIfInBounds_toArray, List.set_cons_zero, List.set_cons_succ]) | ((with_reducible apply neq_step); exact rfl; exact rfl; exact rfl; exact rfl; simp only [Act.put, List.setIfInBounds_toArray, List.set_cons_zero, List.set_cons_succ]) | first | ((with_reducible apply gload_two); exact rfl; exact rfl; exact rfl; focus ((repeat' (first | (with_reducible assumption) | ((with_reducible apply Two.new'); simp; done) | (with_reducible apply Two.setRow) | (with_reducible apply Two.setRow_other) | (with_reducible apply Two.alloc) | (simp; done) | omega | (simp; omega))); done)) | ((with_reducible apply gload_row); exact rfl; exact rfl; exact rfl; focus ((repeat' (first | (with_reducible assumption) | ((with_reducible apply Row.zero'); simp; done) | ((with_reducible apply Row.new'); simp; done) | (with_reducible apply Row.setRow) | (with_reducible apply Row.setRow_other) | (with_reducible apply Row.alloc) | (with_reducible apply Row.drew) | (simp; done) | omega | (simp; omega))); done)) | ((with_reducible apply geq_two); exact rfl; exact rfl; exact rfl; exact rfl; simp only [Act.put, List.setIfInBounds_toArray, List.set_cons_zero, List.set_cons_succ]) | ((with_reducible apply gneq_two); exact rfl; exact rfl; exact rfl; exact rfl; simp only [Act.put, List.setIfInBounds_toArray, List.set_cons_zero, List.set_cons_succ]))
    (with_reducible refine (wdiv_any a c b _ ha hc ha2 hc2 hb0 hb2).mono ?_)
    rintro e w3 ⟨rfl, hb3⟩
    have tQ : Two w3 w2.heap.size (.int .u64 0) (.int .u64 a) := Two.below (by (repeat' (first | (with_reducible assumption) | ((with_reducible apply Two.new'); simp; done) | (with_reducible apply Two.setRow) | (with_reducible apply Two.setRow_other) | (with_reducible apply Two.alloc) | (simp; done) | omega | (simp; omega)))) hb3 (by simp <;> omega)
    have tW : Two w3 (w2.heap.size + 1) (.int .u64 a) (.int .u64 c) := Two.below (by (repeat' (first | (with_reducible assumption) | ((with_reducible apply Two.new'); simp; done) | (with_reducible apply Two.setRow) | (with_reducible apply Two.setRow_other) | (with_reducible apply Two.alloc) | (simp; done) | omega | (simp; omega)))) hb3 (by simp <;> omega)
    have B3 := hide (B2.out.trans ((keep_below hb3 (by (repeat' (first | (with_reducible exact Below.refl _ _) | (with_reducible apply below_setRow) | (with_reducible apply Below.alloc) | (simp; done) | omega | (simp; omega)))) (by simp <;> omega) : Below w2.heap.size w2 w3).mono B2.out.size))
    have hN := hide B2.out.size
    clear hb3 B2 e1
    generalize w2.heap.size = N at *
    dsimp only
    obtain ⟨X, Y, x0, x1, y0, y1, hXY, hX, hY⟩ := HM.out
    have r0 := Int.emod_nonneg (wv a c) (show b ≠ 0 by omega)
    have r1 := Int.emod_lt_of_pos (wv a c) hb0
    have g0 : 0 ≤ wv a c / b := Int.ediv_nonneg v0 hb
    have g1 : wv a c / b < M128 := Int.lt_of_le_of_lt (Int.ediv_le_self _ v0) v1
    have hl : 0 ≤ wv a c / b % M64 ∧ wv a c / b % M64 < M64 ∧ 0 ≤ wv a c / b / M64 ∧ wv a c / b / M64 < M64 := by rw [M64_eq]; rw [M128_eq] at g1; omega
    obtain ⟨l0, l1, k0, k1⟩ := hl
    clear HM g0 g1 HB
    generalize wv a c / b / M64 = H at *
    generalize wv a c / b % M64 = L at *
    generalize wv a c % b = R at *
    have c0 := (Two.setRow (x' := .int .u64 H) (y' := .int .u64 L) tQ).c1
    obtain ⟨m0, m1⟩ := mul_bd l0 hb l1 hb2
    have hm : 0 ≤ L * b / M64 ∧ L * b / M64 < M64 ∧ 0 ≤ L * b % M64 ∧ L * b % M64 < M64 := by rw [M64_eq]; rw [M128_eq] at m1; omega
    obtain ⟨m2, m3, m4, m5⟩ := hm
    obtain ⟨n0, n1⟩ := mul_bd k0 hb k1 hb2
    have hn : 0 ≤ H * b / M64 ∧ H * b / M64 < M64 ∧ 0 ≤ H * b % M64 ∧ H * b % M64 < M64 := by rw [M64_eq]; rw [M128_eq] at n1; omega
    obtain ⟨n2, n3, n4, n5⟩ := hn
    have HX := hide (show wv (L * b / M64) (L * b % M64) + wv 0 R = X by rw [wv_split]; unfold wv; omega)
    have HY := hide (show lft (wv (H * b / M64) (H * b % M64)) 64 = Y by rw [wv_split]; exact hY)
    have HXm := hide (Int.emod_eq_of_lt x0 x1)
    have HXY := hide hXY
    have HVm := hide (Int.emod_eq_of_lt v0 v1)
    have HW := hide (show 0 ≤ X / M64 ∧ 0 ≤ X % M64 ∧ 0 ≤ Y / M64 ∧ 0 ≤ Y % M64 ∧ X / M64 < M64 ∧ X % M64 < M64 ∧ Y / M64 < M64 ∧ Y % M64 < M64 by rw [M64_eq]; rw [M128_eq] at *; omega)
    clear hX hY hXY m0 m1 n0 n1
    go_wp2_with (first | first | ((with_reducible apply load_row); exact rfl; exact rfl; exact rfl; focus ((repeat' (first | (with_reducible assumption) | ((with_reducible apply Row.zero'); simp; done) | ((with_reducible apply Row.new'); simp; done) | (with_reducible apply Row.setRow) | (with_reducible apply Row.setRow_other) | (with_reducible apply Row.alloc) | (with_reducible apply Row.drew) | (simp; done) | omega | (simp; omega))); done)) | ((with_reducible apply store_row); exact rfl; exact rfl; exact rfl; exact rfl; focus ((repeat' (first | (with_reducible assumption) | ((with_reducible apply Row.zero'); simp; done) | ((with_reducible apply Row.new'); simp; done) | (with_reducible apply Row.setRow) | (with_reducible apply Row.setRow_other) | (with_reducible apply Row.alloc) | (with_reducible apply Row.drew) | (simp; done) | omega | (simp; omega))); done)) | ((with_reducible apply load_two); exact rfl; exact rfl; exact rfl; focus ((repeat' (first | (with_reducible assumption) | ((with_reducible apply Two.new'); simp; done) | (with_reducible apply Two.setRow) | (with_reducible apply Two.setRow_other) | (with_reducible apply Two.alloc) | (simp; done) | omega | (simp; omega))); done)) | ((with_reducible apply store_two); exact rfl; exact rfl; exact rfl; exact rfl; exact rfl; exact rfl; focus ((repeat' (first | (with_reducible assumption) | ((with_reducible apply Two.new'); simp; done) | (with_reducible apply Two.setRow) | (with_reducible apply Two.setRow_other) | (with_reducible apply Two.alloc) | (simp; done) | omega | (simp; omega))); done)) | ((with_reducible apply eq_step); exact rfl; exact rfl; exact rfl; exact rfl; simp only [Act.put, List.setIfInBounds_toArray, List.set_cons_zero, List.set_cons_succ]) | ((with_reducible apply neq_step); exact rfl; exact rfl; exact rfl; exact rfl; simp only [Act.put, List.setIfInBounds_toArray, List.set_cons_zero, List.set_cons_succ]) | first | ((with_reducible apply gload_two); exact rfl; exact rfl; exact rfl; focus ((repeat' (first | (with_reducible assumption) | ((with_reducible apply Two.new'); simp; done) | (with_reducible apply Two.setRow) | (with_reducible apply Two.setRow_other) | (with_reducible apply Two.alloc) | (simp; done) | omega | (simp; omega))); done)) | ((with_reducible apply gload_row); exact rfl; exact rfl; exact rfl; focus ((repeat' (first | (with_reducible assumption) | ((with_reducible apply Row.zero'); simp; done) | ((with_reducible apply Row.new'); simp; done) | (with_reducible apply Row.setRow) | (with_reducible apply Row.setRow_other) | (with_reducible apply Row.alloc) | (with_reducible apply Row.drew) | (simp; done) | omega | (simp; omega))); done)) | ((with_reducible apply geq_two); exact rfl; exact rfl; exact rfl; exact rfl; simp only [Act.put, List.setIfInBounds_toArray, List.set_cons_zero, List.set_cons_succ]) | ((with_reducible apply gneq_two); exact rfl; exact rfl; exact rfl; exact rfl; simp only [Act.put, List.setIfInBounds_toArray, List.set_cons_zero, List.set_cons_succ]))
    (with_reducible refine (mul_any L b _ l0 hb l1 hb2).mono ?_)
    rintro e w4 ⟨rfl, hb4⟩
    have tQ4 : Two w4 N (.int .u64 H) (.int .u64 L) := Two.below (by (repeat' (first | (with_reducible assumption) | ((with_reducible apply Two.new'); simp; done) | (with_reducible apply Two.setRow) | (with_reducible apply Two.setRow_other) | (with_reducible apply Two.alloc) | (simp; done) | omega | (simp; omega)))) hb4 (by have := tQ.lt; simp <;> omega)
    have tW4 : Two w4 (N + 1) (.int .u64 a) (.int .u64 c) := Two.below (by (repeat' (first | (with_reducible assumption) | ((with_reducible apply Two.new'); simp; done) | (with_reducible apply Two.setRow) | (with_reducible apply Two.setRow_other) | (with_reducible apply Two.alloc) | (simp; done) | omega | (simp; omega)))) hb4 (by have := tW.lt; simp <;> omega)
    have B4 := hide (B3.out.trans ((keep_below hb4 (below_setRow (Below.refl _ _) hN.out _) (by simpa using B3.out.size) : Below w.heap.size w3 w4)))
    clear hb4 B3 tQ tW c0
    dsimp only
    go_wp2_with (first | first | ((with_reducible apply load_row); exact rfl; exact rfl; exact rfl; focus ((repeat' (first | (with_reducible assumption) | ((with_reducible apply Row.zero'); simp; done) | ((with_reducible apply Row.new'); simp; done) | (with_reducible apply Row.setRow) | (with_reducible apply Row.setRow_other) | (with_reducible apply Row.alloc) | (with_reducible apply Row.drew) | (simp; done) | omega | (simp; omega))); done)) | ((with_reducible apply store_row); exact rfl; exact rfl; exact rfl; exact rfl; focus ((repeat' (first | (with_reducible assumption) | ((with_reducible apply Row.zero'); simp; done) | ((with_reducible apply Row.new'); simp; done) | (with_reducible apply Row.setRow) | (with_reducible apply Row.setRow_other) | (with_reducible apply Row.alloc) | (with_reducible apply Row.drew) | (simp; done) | omega | (simp; omega))); done)) | ((with_reducible apply load_two); exact rfl; exact rfl; exact rfl; focus ((repeat' (first | (with_reducible assumption) | ((with_reducible apply Two.new'); simp; done) | (with_reducible apply Two.setRow) | (with_reducible apply Two.setRow_other) | (with_reducible apply Two.alloc) | (simp; done) | omega | (simp; omega))); done)) | ((with_reducible apply store_two); exact rfl; exact rfl; exact rfl; exact rfl; exact rfl; exact rfl; focus ((repeat' (first | (with_reducible assumption) | ((with_reducible apply Two.new'); simp; done) | (with_reducible apply Two.setRow) | (with_reducible apply Two.setRow_other) | (with_reducible apply Two.alloc) | (simp; done) | omega | (simp; omega))); done)) | ((with_reducible apply eq_step); exact rfl; exact rfl; exact rfl; exact rfl; simp only [Act.put, List.setIfInBounds_toArray, List.set_cons_zero, List.set_cons_succ]) | ((with_reducible apply neq_step); exact rfl; exact rfl; exact rfl; exact rfl; simp only [Act.put, List.setIfInBounds_toArray, List.set_cons_zero, List.set_cons_succ]) | first | ((with_reducible apply gload_two); exact rfl; exact rfl; exact rfl; focus ((repeat' (first | (with_reducible assumption) | ((with_reducible apply Two.new'); simp; done) | (with_reducible apply Two.setRow) | (with_reducible apply Two.setRow_other) | (with_reducible apply Two.alloc) | (simp; done) | omega | (simp; omega))); done)) | ((with_reducible apply gload_row); exact rfl; exact rfl; exact rfl; focus ((repeat' (first | (with_reducible assumption) | ((with_reducible apply Row.zero'); simp; done) | ((with_reducible apply Row.new'); simp; done) | (with_reducible apply Row.setRow) | (with_reducible apply Row.setRow_other) | (with_reducible apply Row.alloc) | (with_reducible apply Row.drew) | (simp; done) | omega | (simp; omega))); done)) | ((with_reducible apply geq_two); exact rfl; exact rfl; exact rfl; exact rfl; simp only [Act.put, List.setIfInBounds_toArray, List.set_cons_zero, List.set_cons_succ]) | ((with_reducible apply gneq_two); exact rfl; exact rfl; exact rfl; exact rfl; simp only [Act.put, List.setIfInBounds_toArray, List.set_cons_zero, List.set_cons_succ]))
    (with_reducible refine (wadd_any (L * b / M64) (L * b % M64) 0 R _ m2 m4 (by decide) r0 m3 m5 (by decide) (by omega)).mono ?_)
    rintro e w5 ⟨rfl, hb5⟩
    have tQ5 := tQ4.below hb5 tQ4.lt
    have tW5 := tW4.below hb5 tW4.lt
    have B5 := hide (B4.out.trans (hb5.mono B4.out.size))
    clear hb5 B4 tQ4 tW4
    dsimp only
    rw [HX.out, HXm.out, decide_eq_true x1]
    have l5 := tW5.lt
    go_wp2_with (first | first | ((with_reducible apply load_row); exact rfl; exact rfl; exact rfl; focus ((repeat' (first | (with_reducible assumption) | ((with_reducible apply Row.zero'); simp; done) | ((with_reducible apply Row.new'); simp; done) | (with_reducible apply Row.setRow) | (with_reducible apply Row.setRow_other) | (with_reducible apply Row.alloc) | (with_reducible apply Row.drew) | (simp; done) | omega | (simp; omega))); done)) | ((with_reducible apply store_row); exact rfl; exact rfl; exact rfl; exact rfl; focus ((repeat' (first | (with_reducible assumption) | ((with_reducible apply Row.zero'); simp; done) | ((with_reducible apply Row.new'); simp; done) | (with_reducible apply Row.setRow) | (with_reducible apply Row.setRow_other) | (with_reducible apply Row.alloc) | (with_reducible apply Row.drew) | (simp; done) | omega | (simp; omega))); done)) | ((with_reducible apply load_two); exact rfl; exact rfl; exact rfl; focus ((repeat' (first | (with_reducible assumption) | ((with_reducible apply Two.new'); simp; done) | (with_reducible apply Two.setRow) | (with_reducible apply Two.setRow_other) | (with_reducible apply Two.alloc) | (simp; done) | omega | (simp; omega))); done)) | ((with_reducible apply store_two); exact rfl; exact rfl; exact rfl; exact rfl; exact rfl; exact rfl; focus ((repeat' (first | (with_reducible assumption) | ((with_reducible apply Two.new'); simp; done) | (with_reducible apply Two.setRow) | (with_reducible apply Two.setRow_other) | (with_reducible apply Two.alloc) | (simp; done) | omega | (simp; omega))); done)) | ((with_reducible apply eq_step); exact rfl; exact rfl; exact rfl; exact rfl; simp only [Act.put, List.setIfInBounds_toArray, List.set_cons_zero, List.set_cons_succ]) | ((with_reducible apply neq_step); exact rfl; exact rfl; exact rfl; exact rfl; simp only [Act.put, List.setIfInBounds_toArray, List.set_cons_zero, List.set_cons_succ]) | first | ((with_reducible apply gload_two); exact rfl; exact rfl; exact rfl; focus ((repeat' (first | (with_reducible assumption) | ((with_reducible apply Two.new'); simp; done) | (with_reducible apply Two.setRow) | (with_reducible apply Two.setRow_other) | (with_reducible apply Two.alloc) | (simp; done) | omega | (simp; omega))); done)) | ((with_reducible apply gload_row); exact rfl; exact rfl; exact rfl; focus ((repeat' (first | (with_reducible assumption) | ((with_reducible apply Row.zero'); simp; done) | ((with_reducible apply Row.new'); simp; done) | (with_reducible apply Row.setRow) | (with_reducible apply Row.setRow_other) | (with_reducible apply Row.alloc) | (with_reducible apply Row.drew) | (simp; done) | omega | (simp; omega))); done)) | ((with_reducible apply geq_two); exact rfl; exact rfl; exact rfl; exact rfl; simp only [Act.put, List.setIfInBounds_toArray, List.set_cons_zero, List.set_cons_succ]) | ((with_reducible apply gneq_two); exact rfl; exact rfl; exact rfl; exact rfl; simp only [Act.put, List.setIfInBounds_toArray, List.set_cons_zero, List.set_cons_succ]))
    have hC : BackC N w5.heap.size w5 (.int .u64 H) (.int .u64 L) (.int .u64 a) (.int .u64 c) (.int .u64 (X / M64)) (.int .u64 (X % M64)) (fun _ => false) undef ((w5.alloc (.cells #[.int .u64 0, .int .u64 0] 25)).setRow w5.heap.size #[.int .u64 (X / M64), .int .u64 (X % M64)]) :=
      ⟨by (repeat' (first | (with_reducible assumption) | ((with_reducible apply Two.new'); simp; done) | (with_reducible apply Two.setRow) | (with_reducible apply Two.setRow_other) | (with_reducible apply Two.alloc) | (simp; done) | omega | (simp; omega))), by (repeat' (first | (with_reducible assumption) | ((with_reducible apply Two.new'); simp; done) | (with_reducible apply Two.setRow) | (with_reducible apply Two.setRow_other) | (with_reducible apply Two.alloc) | (simp; done) | omega | (simp; omega))), by (repeat' (first | (with_reducible assumption) | ((with_reducible apply Two.new'); simp; done) | (with_reducible apply Two.setRow) | (with_reducible apply Two.setRow_other) | (with_reducible apply Two.alloc) | (simp; done) | omega | (simp; omega))), (by (repeat' (first | (with_reducible exact Below.refl _ _) | (with_reducible apply below_setRow) | (with_reducible apply Below.alloc) | (simp; done) | omega | (simp; omega)))), fun h => by cases h⟩
    have hC' : BackC N w5.heap.size w5 (.int .u64 H) (.int .u64 L) (.int .u64 a) (.int .u64 c) (.int .u64 (X / M64)) (.int .u64 (X % M64)) (fun _ => false) (.pointer (some ⟨w5.heap.size + 1, 0, none⟩)) ((w5.alloc (.cells #[.int .u64 0, .int .u64 0] 25)).setRow w5.heap.size #[.int .u64 (X / M64), .int .u64 (X % M64)]) :=
      ⟨hC.1, hC.2.1, hC.2.2.1, hC.2.2.2.1, fun h => by cases h⟩
    clear hC tQ5
    refine wp_region_loose (fun g m w' => BackC N w5.heap.size w5 (.int .u64 H) (.int .u64 L) (.int .u64 a) (.int .u64 c) (.int .u64 (X / M64)) (.int .u64 (X % M64)) g m w') (fun v => ∃ k, v = .pointer (some ⟨k, 0, none⟩) ∧ w5.heap.size < k) 10 (fun i => ([.agg #[.int .u64 (X / M64), .int .u64 (X % M64)], .pointer (some ⟨N, 0, none⟩), .int .u64 H, .int .u64 b, .agg #[.int .u64 (H * b / M64), .int .u64 (H * b % M64)], .agg #[.int .u64 (Y / M64), .int .u64 (Y % M64)], .tuple #[.agg #[.int .u64 a, .int .u64 c], .bool true], .tuple #[.agg #[.int .u64 a, .int .u64 c], .bool true], .agg #[.int .u64 a, .int .u64 c], .bool true, undef, undef, .bool true] : List Value).getD i undef) (.pointer (some ⟨w5.heap.size + 1, 0, none⟩)) ⟨_, rfl, Nat.lt_succ_self _⟩ mixed (by kernel_rfl) hC'.drew ?_
    refine lex2_val (v := .agg #[.int .u64 (X / M64), .int .u64 (X % M64)]) (by decide) rfl rfl (fun g m w' hc => hc) (fun g m w' hn hm hc => exec_load_two _ rfl rfl hc.2.2.1) ?_
    refine lex2_val (v := .pointer (some ⟨N, 0, none⟩)) (by decide) rfl rfl (fun g m w' hc => hc) (fun g m w' hn hm hc => by clear hc hm hn; go_simp) ?_
    refine lex2_val (v := .int .u64 H) (by decide) rfl rfl (fun g m w' hc => hc) (fun g m w' hn hm hc => by have c0 := hc.1.c0; clear hc hm hn; go_simp) ?_
    simp only [Act.put, List.setIfInBounds_toArray, List.set_cons_zero, List.set_cons_succ]
    refine lex2_val (v := .int .u64 b) (by decide) rfl rfl (fun g m w' hc => hc) (fun g m w' hn hm hc => exec_move _ rfl rfl) ?_
    refine lex2_call (f := 24) (args := #[.int .u64 H, .int .u64 b]) (v := .agg #[.int .u64 (H * b / M64), .int .u64 (H * b % M64)]) (by decide) rfl rfl (fun w' => exec_call (by kernel_rfl) rfl rfl) (fun g m w' hn hm hc => ?_) ?_
    · refine (mul_any H b w' k0 hb k1 hb2).mono ?_
      rintro e w'' ⟨rfl, hb⟩
      exact ⟨rfl, hc.below hb⟩
    simp only [Act.put, List.setIfInBounds_toArray, List.set_cons_zero, List.set_cons_succ]
    refine lex2_call (f := 28) (args := #[.agg #[.int .u64 (H * b / M64), .int .u64 (H * b % M64)], .int .i64 64]) (v := .agg #[.int .u64 (Y / M64), .int .u64 (Y % M64)]) (by decide) rfl rfl (fun w' => exec_call (by kernel_rfl) rfl rfl) (fun g m w' hn hm hc => ?_) ?_
    · refine (wleft_any (H * b / M64) (H * b % M64) 64 w' n2 n4 n3 n5).mono ?_
      rintro e w'' ⟨rfl, hb⟩
      exact ⟨by rw [HY.out], hc.below hb⟩
    refine lex2_call (f := 39) (args := #[.agg #[.int .u64 (X / M64), .int .u64 (X % M64)], .agg #[.int .u64 (Y / M64), .int .u64 (Y % M64)]]) (v := .tuple #[.agg #[.int .u64 a, .int .u64 c], .bool true]) (by decide) rfl rfl (fun w' => exec_call (by kernel_rfl) rfl rfl) (fun g m w' hn hm hc => ?_) ?_
    · refine (wadd_any (X / M64) (X % M64) (Y / M64) (Y % M64) w' HW.out.1 HW.out.2.1 HW.out.2.2.1 HW.out.2.2.2.1 HW.out.2.2.2.2.1 HW.out.2.2.2.2.2.1 HW.out.2.2.2.2.2.2.1 HW.out.2.2.2.2.2.2.2).mono ?_
      rintro e w'' ⟨rfl, hb⟩
      exact ⟨by rw [wv_split, wv_split, HXY.out, HVm.out, HP.out.1, HP.out.2, decide_eq_true v1], hc.below hb⟩
    simp only [Act.put, List.setIfInBounds_toArray, List.set_cons_zero, List.set_cons_succ]
    refine lex2_val (v := .tuple #[.agg #[.int .u64 a, .int .u64 c], .bool true]) (by decide) rfl rfl (fun g m w' hc => hc) (fun g m w' hn hm hc => exec_move _ rfl rfl) ?_
    refine lex2_val (v := .agg #[.int .u64 a, .int .u64 c]) (by decide) rfl rfl (fun g m w' hc => hc) (fun g m w' hn hm hc => exec_extract _ _ rfl rfl rfl) ?_
    refine lex2_val (v := .bool true) (by decide) rfl rfl (fun g m w' hc => hc) (fun g m w' hn hm hc => exec_extract _ _ rfl rfl rfl) ?_
    simp only [Act.put, List.setIfInBounds_toArray, List.set_cons_zero, List.set_cons_succ]
    refine lex2_new rfl rfl (fun g m w' hn hc => ?_) ?_
    · refine ⟨.pointer (some ⟨w'.heap.size, 0, none⟩), w'.alloc (.cells #[.int .u64 0, .int .u64 0] 25), by clear hn; have := hc.2.1; clear hc; go_simp, ⟨_, rfl, hc.2.2.1.lt⟩, ?_⟩
      exact ⟨hc.1.alloc _, hc.2.1.alloc _, hc.2.2.1.alloc _, hc.2.2.2.1.alloc (Nat.le_of_lt hc.2.2.1.lt) _, fun _ => ⟨_, rfl, hc.2.2.1.lt, _, _, Two.new _ _ _, fun h => by have h' := hn.1 11 (by kernel_rfl); simp [mark, h'] at h⟩⟩
    rintro v ⟨k, rfl, hk⟩
    simp only [Act.put, List.setIfInBounds_toArray, List.set_cons_zero, List.set_cons_succ]
    refine lex2_put (by decide) rfl rfl (fun g m w' hn hm hc => ?_) ?_
    · obtain ⟨k', hk', hlt, p, q, hT, hf⟩ := hc.2.2.2.2 (hn.2 10 (by kernel_rfl))
      obtain rfl := hm.2 _ rfl
      obtain rfl : k = k' := by simpa using hk'
      have := hc.2.1.lt
      exact ⟨_, exec_store_two _ _ rfl rfl rfl rfl rfl hT, hc.1.setRow_other _ (by omega), hc.2.1.setRow_other _ (by omega), hc.2.2.1.setRow_other _ (by omega), below_setRow hc.2.2.2.1 (by omega) _, fun _ => ⟨_, rfl, hlt, _, _, hT.setRow, fun _ => ⟨rfl, rfl⟩⟩⟩
    refine lex2_val (v := .bool true) (by decide) rfl rfl (fun g m w' hc => hc) (fun g m w' hn hm hc => exec_assign _ rfl rfl) ?_
    simp only [Act.put, List.setIfInBounds_toArray, List.set_cons_zero, List.set_cons_succ]
    refine lex2_nil ?_
    rintro m w6 hm ⟨-, tW6, -, hB6, hT⟩
    obtain ⟨k', hk', -, p, q, tY, hf⟩ := hT rfl
    obtain rfl := hm.2 _ rfl
    obtain rfl : k = k' := by simpa using hk'
    obtain ⟨rfl, rfl⟩ := hf rfl
    have B6 := hide (B5.out.trans (hB6.mono B5.out.size))
    have e1 : (a == a) = true := by simp
    have e2 : (c == c) = true := by simp
    have e3 : (R == R) = true := by simp
    clear hk' hm hf hB6 B5 hT hC'
    go_wp2_with (first | first | ((with_reducible apply load_row); exact rfl; exact rfl; exact rfl; focus ((repeat' (first | (with_reducible assumption) | ((with_reducible apply Row.zero'); simp; done) | ((with_reducible apply Row.new'); simp; done) | (with_reducible apply Row.setRow) | (with_reducible apply Row.setRow_other) | (with_reducible apply Row.alloc) | (with_reducible apply Row.drew) | (simp; done) | omega | (simp; omega))); done)) | ((with_reducible apply store_row); exact rfl; exact rfl; exact rfl; exact rfl; focus ((repeat' (first | (with_reducible assumption) | ((with_reducible apply Row.zero'); simp; done) | ((with_reducible apply Row.new'); simp; done) | (with_reducible apply Row.setRow) | (with_reducible apply Row.setRow_other) | (with_reducible apply Row.alloc) | (with_reducible apply Row.drew) | (simp; done) | omega | (simp; omega))); done)) | ((with_reducible apply load_two); exact rfl; exact rfl; exact rfl; focus ((repeat' (first | (with_reducible assumption) | ((with_reducible apply Two.new'); simp; done) | (with_reducible apply Two.setRow) | (with_reducible apply Two.setRow_other) | (with_reducible apply Two.alloc) | (simp; done) | omega | (simp; omega))); done)) | ((with_reducible apply store_two); exact rfl; exact rfl; exact rfl; exact rfl; exact rfl; exact rfl; focus ((repeat' (first | (with_reducible assumption) | ((with_reducible apply Two.new'); simp; done) | (with_reducible apply Two.setRow) | (with_reducible apply Two.setRow_other) | (with_reducible apply Two.alloc) | (simp; done) | omega | (simp; omega))); done)) | ((with_reducible apply eq_step); exact rfl; exact rfl; exact rfl; exact rfl; simp only [Act.put, List.setIfInBounds_toArray, List.set_cons_zero, List.set_cons_succ]) | ((with_reducible apply neq_step); exact rfl; exact rfl; exact rfl; exact rfl; simp only [Act.put, List.setIfInBounds_toArray, List.set_cons_zero, List.set_cons_succ]) | first | ((with_reducible apply gload_two); exact rfl; exact rfl; exact rfl; focus ((repeat' (first | (with_reducible assumption) | ((with_reducible apply Two.new'); simp; done) | (with_reducible apply Two.setRow) | (with_reducible apply Two.setRow_other) | (with_reducible apply Two.alloc) | (simp; done) | omega | (simp; omega))); done)) | ((with_reducible apply gload_row); exact rfl; exact rfl; exact rfl; focus ((repeat' (first | (with_reducible assumption) | ((with_reducible apply Row.zero'); simp; done) | ((with_reducible apply Row.new'); simp; done) | (with_reducible apply Row.setRow) | (with_reducible apply Row.setRow_other) | (with_reducible apply Row.alloc) | (with_reducible apply Row.drew) | (simp; done) | omega | (simp; omega))); done)) | ((with_reducible apply geq_two); exact rfl; exact rfl; exact rfl; exact rfl; simp only [Act.put, List.setIfInBounds_toArray, List.set_cons_zero, List.set_cons_succ]) | ((with_reducible apply gneq_two); exact rfl; exact rfl; exact rfl; exact rfl; simp only [Act.put, List.setIfInBounds_toArray, List.set_cons_zero, List.set_cons_succ]))
    (with_reducible refine (alive_any _).mono ?_)
    rintro e w7 ⟨rfl, hb7⟩
    have B7 := hide (B6.out.trans (hb7.mono B6.out.size))
    clear hb7 B6
    dsimp only
    go_wp2
    go_ret
    exact ⟨rfl, B7.out⟩
end Go.Proofs.Ytadilccdipcmnaa
