/- Variables of two int64 (a band's prices): what lies in them, how they are read, written and held against each other. No condition. -/
import Derived.Test.YtadilccdipcmnaaFixH
namespace Go.Proofs.Ytadilccdipcmnaa
open Go Go.RowKit

/-- Block b is a variable of two prices. -/
def Bnd (w : World) (b : Nat) (x y : Value) : Prop := w.heap[b]? = some (.cells #[x, y] 53 (0, 0))
theorem Bnd.lt {w : World} {b : Nat} {x y : Value} (h : Bnd w b x y) : b < w.heap.size := lt_of_block h
theorem Bnd.below {w w' : World} {B b : Nat} {x y : Value} (h : Bnd w b x y) (hb : Below B w w') (hlt : b < B) : Bnd w' b x y := by
  unfold Bnd
  rw [hb.block b hlt]
  exact h
theorem Bnd.new (w : World) (x y : Value) : Bnd (w.alloc (.cells #[x, y] 53)) w.heap.size x y := heap_alloc_new w _
theorem Bnd.new' {w : World} (x y : Value) {n : Nat} (h : w.heap.size = n) : Bnd (w.alloc (.cells #[x, y] 53)) n x y := by
  subst h
  exact Bnd.new w x y
theorem Bnd.alloc {w : World} {b : Nat} {x y : Value} (h : Bnd w b x y) (o : Obj) : Bnd (w.alloc o) b x y := by
  unfold Bnd
  rw [Below.heap_alloc w o b h.lt]
  exact h
theorem Bnd.c0 {w : World} {b : Nat} {x y : Value} (h : Bnd w b x y) : w.cell? ⟨b, 0, none⟩ = some x := by
  rw [cell_of_row w b 0 _ _ _ h]
  rfl
theorem Bnd.c1 {w : World} {b : Nat} {x y : Value} (h : Bnd w b x y) : w.cell? ⟨b, 1, none⟩ = some y := by
  rw [cell_of_row w b 1 _ _ _ h]
  rfl
theorem Bnd.free {w : World} {b : Nat} {x y : Value} (h : Bnd w b x y) (i : Nat) : w.frozen? ⟨b, i, none⟩ = false := frozen_of_row w b i _ _ h
theorem Bnd.drewN {w : World} {b : Nat} {x y : Value} (h : Bnd w b x y) (n : Nat) : Bnd (w.drewN n) b x y := h
theorem size53 : (Try.prog.info? 53).map (·.size) = some 2 := by kernel_rfl
theorem results_bnd {fn : Func} {p : Tmp} {x y : Value} {g : Nat} (h : fn.results = #[.cell p 53]) (tmps : Array Value) (w : World) (hp : tmps.getD p undef = .pointer (some ⟨g, 0, none⟩)) (hg : Bnd w g x y) :
    (results fn tmps).run Try.prog w = .ok (.agg #[x, y]) w :=
  results_cell_row h tmps w g 53 #[x, y] (0, 0) _ hp hg Try.underlying53 rfl size53
theorem run_bnd (w : World) (g : Nat) {x y : Value} (hg : Bnd w g x y) : (loadVar 53 ⟨g, 0, none⟩).run Try.prog w = .ok (.agg #[x, y]) w :=
  run_loadVar_row w g 53 53 #[x, y] (0, 0) _ hg Try.underlying53 rfl size53
theorem results_bnd_tmp {fn : Func} {p t : Tmp} {x y : Value} {g : Nat} (h : fn.results = #[.cell p 53, .tmp t]) (tmps : Array Value) (w : World) (hp : tmps.getD p undef = .pointer (some ⟨g, 0, none⟩)) (hg : Bnd w g x y) :
    (results fn tmps).run Try.prog w = .ok (.tuple #[.agg #[x, y], tmps.getD t undef]) w := by
  have hp' : tmps[p]?.getD undef = .pointer (some ⟨g, 0, none⟩) := by simpa using hp
  simp [results, h, hp', asAddr, run_bnd w g hg]

theorem Bnd.setRow {w : World} {b : Nat} {x y x' y' : Value} (h : Bnd w b x y) : Bnd (w.setRow b #[x', y']) b x' y' := setRow_heap w b _ _ _ _ h
theorem Bnd.setRow_other {w : World} {b c : Nat} {x y : Value} (h : Bnd w b x y) (cs : Array Value) (hn : b ≠ c) : Bnd (w.setRow c cs) b x y := by
  unfold Bnd
  rw [Go.setRow_other w c b cs hn]
  exact h
theorem exec_load_bnd {o : Oper} {a : Act} {w : World} {p q : Value} {g : Nat} (x : Operand) (ho : o.op = .load 53 x) (hx : a.eval x = .pointer (some ⟨g, 0, none⟩)) (hg : Bnd w g p q) : (execOp a.eval o).run Try.prog w = .ok (.value (.agg #[p, q])) w := by
  simp [execOp, ho, hx, Instr.loadAt, Instr.sureAddr, run_bnd w g hg, Result.andThen]
theorem exec_store_bnd {o : Oper} {a : Act} {w : World} {p q p0 q0 : Value} {g : Nat} (x y : Operand) (ho : o.op = .store 53 x y) (hx : a.eval x = .pointer (some ⟨g, 0, none⟩)) (hy : a.eval y = .agg #[p, q]) (hp : p.oneCell' = true) (hq : q.oneCell' = true) (hg : Bnd w g p0 q0) :
    (execOp a.eval o).run Try.prog w = .ok .skip (w.setRow g #[p, q]) := by
  simp [execOp, ho, hx, hy, Instr.storeAt, Instr.sureAddr, run_storeVar_row w g 53 53 #[p0, q0] #[p, q] hg size53 rfl (by simp [hp, hq]), Result.andThen]

/-- A field of a number of two prices. -/
theorem field_bnd0 (x y : Value) (w : World) : (Instr.field 53 (.agg #[x, y]) 0).run Try.prog w = .ok x w := by kernel_rfl
theorem field_bnd1 (x y : Value) (w : World) : (Instr.field 53 (.agg #[x, y]) 1).run Try.prog w = .ok y w := by kernel_rfl

theorem Bnd.set2 {w : World} {b : Nat} {x y x' y' : Value} (h : Bnd w b x y) : Bnd ((w.setCell ⟨b, 0, none⟩ x').setCell ⟨b, 1, none⟩ y') b x' y' := by
  have h1 := heap_setCell_same w b 0 _ _ x' h
  have h2 := heap_setCell_same (w.setCell ⟨b, 0, none⟩ x') b 1 _ _ y' h1
  exact h2
theorem Bnd.setCell {w : World} {b : Nat} {x y : Value} (h : Bnd w b x y) {p : Addr} (v : Value) (hn : b ≠ p.block) : Bnd (w.setCell p v) b x y := by
  unfold Bnd
  rw [Below.heap_setCell w p v b hn]
  exact h
/-! Bnd numbers of two prices held against each other -/
theorem guard53 : Try.prog.eqGuardType Try.prog.depth 53 = false := by kernel_rfl
theorem stood53 : Try.prog.stoodInHeld 53 = false := by kernel_rfl
theorem fields53 : Try.prog.underlying 53 = some (.struct (Try.prog.fieldsOf 53)) := by kernel_rfl
theorem eq_bnd (a b c d : Int) (w : World) : (binOp .eql 53 (.agg #[.int .i64 a, .int .i64 b]) (.agg #[.int .i64 c, .int .i64 d])).run Try.prog w = .ok (.bool (a == c && b == d)) w := by
  rw [run_eql_struct, run_equalIn_agg w 9999 53 _ _ fields53 stood53]
  have hf : (Try.prog.fieldsOf 53).toList = [{ name := "Lo", type := 2, offset := 0, embedded := false, tag := "", pkgPath := "", byteOffset := 0 }, { name := "Hi", type := 2, offset := 1, embedded := false, tag := "", pkgPath := "", byteOffset := 8 }] := by kernel_rfl
  have hp0 : ∀ x y : Value, (part 2 #[x, y] 0).run Try.prog w = .ok x w := fun x y => by kernel_rfl
  have hp1 : ∀ x y : Value, (part 2 #[x, y] 1).run Try.prog w = .ok y w := fun x y => by kernel_rfl
  have he : ∀ p q : Int, (Op.equalIn 9999 2 (.int .i64 p) (.int .i64 q)).run Try.prog w = .ok (p == q) w := fun p q => run_equalIn_int w 9998 2 .i64 .i64 p q Try.underlying2
  rw [hf]
  simp only [Op.eqFields]
  rw [if_pos (by decide), if_pos (by decide)]
  simp only [Sem.run_bind, hp0, he, Result.andThen_ok]
  cases h1 : (a == c)
  · simp
  · cases h2 : (b == d)
    · simp [hp1, he, h2]
    · simp [hp1, he, h2]
theorem guard_bnd (op : BinOp) (x y : Operand) (xs ys : Array Value) (w : World) : (eqGuard op 53 x y (.agg xs) (.agg ys)).run Try.prog w = .ok () w := run_eqGuard_agg w op 53 x y xs ys guard53
theorem beq_step {ops : Array Oper} {rest : List Oper} {o : Oper} {a : Act} {w : World} {Q : Exit → Act → World → Prop} {x y : Operand} {t : TypeId} {p q r s : Int} (hgd : o.guard = none) (ho : o.op = .binOp .eql 53 x y t) (hx : a.eval x = .agg #[.int .i64 p, .int .i64 q]) (hy : a.eval y = .agg #[.int .i64 r, .int .i64 s])
    (h : wpList Try.prog ops Q rest (a.put o.dst (.bool (p == r && q == s))) w) : wpList Try.prog ops Q (o :: rest) a w :=
  wpList_plain hgd fun K hK => by
    unfold Oper.wp
    simp only [execOp, ho, hx, hy, Sem.run_bind, guard_bnd, eq_bnd, Result.andThen, Sem.run_pure]
    exact hK _ _ h

section
variable {ops : Array Oper} {rest : List Oper} {o : Oper} {a : Act} {w : World} {Q : Exit → Act → World → Prop} {p q p0 q0 : Value} {g : Nat}
theorem load_bnd (hgd : o.guard = none) (x : Operand) (ho : o.op = .load 53 x) (hx : a.eval x = .pointer (some ⟨g, 0, none⟩)) (hg : Bnd w g p q)
    (h : wpList Try.prog ops Q rest (a.put o.dst (.agg #[p, q])) w) : wpList Try.prog ops Q (o :: rest) a w :=
  wpList_load_row hgd 53 x ho g hx 53 #[p, q] (0, 0) _ hg Try.underlying53 rfl size53 h
theorem store_bnd (hgd : o.guard = none) (x y : Operand) (ho : o.op = .store 53 x y) (hx : a.eval x = .pointer (some ⟨g, 0, none⟩)) (hy : a.eval y = .agg #[p, q]) (hp : p.oneCell' = true) (hq : q.oneCell' = true) (hg : Bnd w g p0 q0)
    (h : wpList Try.prog ops Q rest (a.put o.dst undef) (w.setRow g #[p, q])) : wpList Try.prog ops Q (o :: rest) a w :=
  wpList_store_row hgd 53 x y ho g #[p, q] hx hy 53 #[p0, q0] hg size53 rfl (by simp [hp, hq]) h
end

theorem eqin_bnd (a b c d : Int) (w : World) : (Op.equalIn 10000 53 (.agg #[.int .i64 a, .int .i64 b]) (.agg #[.int .i64 c, .int .i64 d])).run Try.prog w = .ok (a == c && b == d) w := by
  have h := eq_bnd a b c d w
  rw [run_eql_struct] at h
  generalize (Op.equalIn 10000 53 (.agg #[.int .i64 a, .int .i64 b]) (.agg #[.int .i64 c, .int .i64 d])).run Try.prog w = r at h
  cases r with
  | ok x w' =>
    simp only [Result.andThen_ok, Result.ok.injEq, Value.bool.injEq] at h
    rw [h.1, h.2]
  | halt x w' => simp [Result.andThen] at h
theorem neq_bnd (a b c d : Int) (w : World) : (binOp .neq 53 (.agg #[.int .i64 a, .int .i64 b]) (.agg #[.int .i64 c, .int .i64 d])).run Try.prog w = .ok (.bool (!(a == c && b == d))) w := by
  rw [run_neq_struct, eqin_bnd]
  rfl
theorem bneq_step {ops : Array Oper} {rest : List Oper} {o : Oper} {a : Act} {w : World} {Q : Exit → Act → World → Prop} {x y : Operand} {t : TypeId} {p q r s : Int} (hgd : o.guard = none) (ho : o.op = .binOp .neq 53 x y t) (hx : a.eval x = .agg #[.int .i64 p, .int .i64 q]) (hy : a.eval y = .agg #[.int .i64 r, .int .i64 s])
    (h : wpList Try.prog ops Q rest (a.put o.dst (.bool (!(p == r && q == s)))) w) : wpList Try.prog ops Q (o :: rest) a w :=
  wpList_plain hgd fun K hK => by
    unfold Oper.wp
    simp only [execOp, ho, hx, hy, Sem.run_bind, guard_bnd, neq_bnd, Result.andThen, Sem.run_pure]
    exact hK _ _ h

section
variable {ops : Array Oper} {rest : List Oper} {o : Oper} {a : Act} {w : World} {Q : Exit → Act → World → Prop}
theorem exec_eq_bnd {t : TypeId} {x y : Operand} {p q r s : Int} (ho : o.op = .binOp .eql 53 x y t) (hx : a.eval x = .agg #[.int .i64 p, .int .i64 q]) (hy : a.eval y = .agg #[.int .i64 r, .int .i64 s]) : (execOp a.eval o).run Try.prog w = .ok (.value (.bool (p == r && q == s))) w := by
  simp only [execOp, ho, hx, hy, Sem.run_bind, guard_bnd, eq_bnd, Result.andThen, Sem.run_pure]
theorem exec_neq_bnd {t : TypeId} {x y : Operand} {p q r s : Int} (ho : o.op = .binOp .neq 53 x y t) (hx : a.eval x = .agg #[.int .i64 p, .int .i64 q]) (hy : a.eval y = .agg #[.int .i64 r, .int .i64 s]) : (execOp a.eval o).run Try.prog w = .ok (.value (.bool (!(p == r && q == s)))) w := by
  simp only [execOp, ho, hx, hy, Sem.run_bind, guard_bnd, neq_bnd, Result.andThen, Sem.run_pure]
theorem gload_bnd {p q : Value} {g : Nat} (hgd : Region.wanted o (yielded ops a.tmps) = true) (x : Operand) (ho : o.op = .load 53 x) (hx : a.eval x = .pointer (some ⟨g, 0, none⟩)) (hg : Bnd w g p q)
    (h : wpList Try.prog ops Q rest (a.put o.dst (.agg #[p, q])) w) : wpList Try.prog ops Q (o :: rest) a w := step_val hgd (exec_load_bnd x ho hx hg) h
theorem geq_bnd {t : TypeId} {x y : Operand} {p q r s : Int} (hgd : Region.wanted o (yielded ops a.tmps) = true) (ho : o.op = .binOp .eql 53 x y t) (hx : a.eval x = .agg #[.int .i64 p, .int .i64 q]) (hy : a.eval y = .agg #[.int .i64 r, .int .i64 s])
    (h : wpList Try.prog ops Q rest (a.put o.dst (.bool (p == r && q == s))) w) : wpList Try.prog ops Q (o :: rest) a w := step_val hgd (exec_eq_bnd ho hx hy) h
theorem gneq_bnd {t : TypeId} {x y : Operand} {p q r s : Int} (hgd : Region.wanted o (yielded ops a.tmps) = true) (ho : o.op = .binOp .neq 53 x y t) (hx : a.eval x = .agg #[.int .i64 p, .int .i64 q]) (hy : a.eval y = .agg #[.int .i64 r, .int .i64 s])
    (h : wpList Try.prog ops Q rest (a.put o.dst (.bool (!(p == r && q == s)))) w) : wpList Try.prog ops Q (o :: rest) a w := step_val hgd (exec_neq_bnd ho hx hy) h
end
end Go.Proofs.Ytadilccdipcmnaa
