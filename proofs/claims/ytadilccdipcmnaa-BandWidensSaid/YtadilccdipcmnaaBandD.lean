/- Bands of prices of a symbol: what Static, Dynamic, Of and Collar of the program and of the reference come to. Arguments: any int64, any symbol. -/
import Derived.Test.YtadilccdipcmnaaBandC
namespace Go.Proofs.Ytadilccdipcmnaa
open Go Go.RowKit
attribute [local go_sem] field_bnd0 field_bnd1

/-- A symbol's sixteen numbers. -/
abbrev symA (s : Nat → Int) : Array Value := #[.int .i64 (s 0), .int .i64 (s 1), .int .i64 (s 2), .int .i64 (s 3), .int .i64 (s 4), .int .i64 (s 5), .int .i64 (s 6), .int .i64 (s 7), .int .i64 (s 8), .int .i64 (s 9), .int .i64 (s 10), .int .i64 (s 11), .int .i64 (s 12), .int .i64 (s 13), .int .i64 (s 14), .int .i64 (s 15)]
/-- Block b is a variable of a symbol. -/
def Sym (w : World) (b : Nat) (s : Nat → Int) : Prop := w.heap[b]? = some (.cells (symA s) 49 (0, 0))
theorem Sym.lt {w : World} {b : Nat} {s : Nat → Int} (h : Sym w b s) : b < w.heap.size := lt_of_block h
theorem Sym.below {w w' : World} {B b : Nat} {s : Nat → Int} (h : Sym w b s) (hb : Below B w w') (hlt : b < B) : Sym w' b s := by
  unfold Sym
  rw [hb.block b hlt]
  exact h
theorem Sym.new (w : World) (s : Nat → Int) : Sym (w.alloc (.cells (symA s) 49)) w.heap.size s := heap_alloc_new w _
theorem Sym.new' {w : World} (s : Nat → Int) {n : Nat} (h : w.heap.size = n) : Sym (w.alloc (.cells (symA s) 49)) n s := by
  subst h
  exact Sym.new w s
theorem Sym.alloc {w : World} {b : Nat} {s : Nat → Int} (h : Sym w b s) (o : Obj) : Sym (w.alloc o) b s := by
  unfold Sym
  rw [Below.heap_alloc w o b h.lt]
  exact h
theorem Sym.setRow_other {w : World} {b c : Nat} {s : Nat → Int} (h : Sym w b s) (cs : Array Value) (hn : b ≠ c) : Sym (w.setRow c cs) b s := by
  unfold Sym
  rw [Go.setRow_other w c b cs hn]
  exact h
theorem Sym.cell {w : World} {b : Nat} {s : Nat → Int} (h : Sym w b s) (i : Nat) {v : Value} (hi : (symA s)[i]? = some v) : w.cell? ⟨b, i, none⟩ = some v := by
  rw [cell_of_row w b i _ _ _ h]
  exact hi
theorem size49 : (Try.prog.info? 49).map (·.size) = some 16 := by kernel_rfl
section
variable {ops : Array Oper} {rest : List Oper} {o : Oper} {a : Act} {w : World} {Q : Exit → Act → World → Prop} {s : Nat → Int} {g : Nat}
theorem load_sym (hgd : o.guard = none) (x : Operand) (ho : o.op = .load 49 x) (hx : a.eval x = .pointer (some ⟨g, 0, none⟩)) (hg : Sym w g s)
    (h : wpList Try.prog ops Q rest (a.put o.dst (.agg (symA s))) w) : wpList Try.prog ops Q (o :: rest) a w :=
  wpList_load_row hgd 49 x ho g hx 49 (symA s) (0, 0) _ hg Try.underlying49 rfl size49 h
end
set_option maxRecDepth 100000 in
set_option maxHeartbeats 4000000 in
theorem static_any (s : Nat → Int) (r : Int) (w : World) (hg : okI (s 0)) :
    Calls Try.prog 42 #[.agg (symA s), .int .i64 r] w fun e w' => e = .returned (optB (bandF r (s 2) (s 0))) ∧ Below w.heap.size w w' := by
  have Hg := hide hg
  clear hg
  have tS : Sym ((w.alloc (.cells (symA s) 49)).alloc (.cells #[.int .i64 0, .int .i64 0] 53)) w.heap.size s := (Sym.new w s).alloc _
  have c0 := tS.cell 0 rfl
  have c1 := tS.cell 2 rfl
  clear tS
  go_enter Try.func42, Try.ntmps42
  go_wp2_with (fail)
  (with_reducible refine (around_any r (s 2) (s 0) _ Hg.out).mono ?_)
  rintro e w1 ⟨rfl, hb⟩
  have tR : Bnd w1 (w.heap.size + 1) (.int .i64 0) (.int .i64 0) := Bnd.below (by (repeat' (first | (with_reducible assumption) | ((with_reducible apply Bnd.new'); simp; done) | (with_reducible apply Bnd.setRow) | (with_reducible apply Bnd.setRow_other) | (with_reducible apply Bnd.alloc) | (simp; done) | omega | (simp; omega)))) hb (by simp <;> omega)
  have B1 := hide (keep_below hb (by (repeat' (first | (with_reducible exact Below.refl _ _) | (with_reducible apply below_setRow) | (with_reducible apply Below.alloc) | (simp; done) | omega | (simp; omega)))) (by simp <;> omega) : Below w.heap.size w w1)
  clear hb
  dsimp only
  rw [optB_split]
  go_wp2_with (first | ((with_reducible apply load_bnd); exact rfl; exact rfl; exact rfl; focus ((repeat' (first | (with_reducible assumption) | ((with_reducible apply Bnd.new'); simp; done) | (with_reducible apply Bnd.setRow) | (with_reducible apply Bnd.setRow_other) | (with_reducible apply Bnd.alloc) | (simp; done) | omega | (simp; omega))); done)) | ((with_reducible apply store_bnd); exact rfl; exact rfl; exact rfl; exact rfl; exact rfl; exact rfl; focus ((repeat' (first | (with_reducible assumption) | ((with_reducible apply Bnd.new'); simp; done) | (with_reducible apply Bnd.setRow) | (with_reducible apply Bnd.setRow_other) | (with_reducible apply Bnd.alloc) | (simp; done) | omega | (simp; omega))); done)) | ((with_reducible apply beq_step); exact rfl; exact rfl; exact rfl; exact rfl; simp only [Act.put, List.setIfInBounds_toArray, List.set_cons_zero, List.set_cons_succ]) | ((with_reducible apply bneq_step); exact rfl; exact rfl; exact rfl; exact rfl; simp only [Act.put, List.setIfInBounds_toArray, List.set_cons_zero, List.set_cons_succ]))
  exact bodyPost_ret (results_bnd_tmp rfl _ _ rfl (by (repeat' (first | (with_reducible assumption) | ((with_reducible apply Bnd.new'); simp; done) | (with_reducible apply Bnd.setRow) | (with_reducible apply Bnd.setRow_other) | (with_reducible apply Bnd.alloc) | (simp; done) | omega | (simp; omega))))) rfl ⟨by rw [optB_split]; rfl, below_setRow B1.out (by omega) _⟩
set_option maxRecDepth 100000 in
set_option maxHeartbeats 4000000 in
theorem dynamic_any (s : Nat → Int) (r : Int) (w : World) (hg : okI (s 0)) :
    Calls Try.prog 45 #[.agg (symA s), .int .i64 r] w fun e w' => e = .returned (optB (bandF r (s 3) (s 0))) ∧ Below w.heap.size w w' := by
  have Hg := hide hg
  clear hg
  have tS : Sym ((w.alloc (.cells (symA s) 49)).alloc (.cells #[.int .i64 0, .int .i64 0] 53)) w.heap.size s := (Sym.new w s).alloc _
  have c0 := tS.cell 0 rfl
  have c1 := tS.cell 3 rfl
  clear tS
  go_enter Try.func45, Try.ntmps45
  go_wp2_with (fail)
  (with_reducible refine (around_any r (s 3) (s 0) _ Hg.out).mono ?_)
  rintro e w1 ⟨rfl, hb⟩
  have tR : Bnd w1 (w.heap.size + 1) (.int .i64 0) (.int .i64 0) := Bnd.below (by (repeat' (first | (with_reducible assumption) | ((with_reducible apply Bnd.new'); simp; done) | (with_reducible apply Bnd.setRow) | (with_reducible apply Bnd.setRow_other) | (with_reducible apply Bnd.alloc) | (simp; done) | omega | (simp; omega)))) hb (by simp <;> omega)
  have B1 := hide (keep_below hb (by (repeat' (first | (with_reducible exact Below.refl _ _) | (with_reducible apply below_setRow) | (with_reducible apply Below.alloc) | (simp; done) | omega | (simp; omega)))) (by simp <;> omega) : Below w.heap.size w w1)
  clear hb
  dsimp only
  rw [optB_split]
  go_wp2_with (first | ((with_reducible apply load_bnd); exact rfl; exact rfl; exact rfl; focus ((repeat' (first | (with_reducible assumption) | ((with_reducible apply Bnd.new'); simp; done) | (with_reducible apply Bnd.setRow) | (with_reducible apply Bnd.setRow_other) | (with_reducible apply Bnd.alloc) | (simp; done) | omega | (simp; omega))); done)) | ((with_reducible apply store_bnd); exact rfl; exact rfl; exact rfl; exact rfl; exact rfl; exact rfl; focus ((repeat' (first | (with_reducible assumption) | ((with_reducible apply Bnd.new'); simp; done) | (with_reducible apply Bnd.setRow) | (with_reducible apply Bnd.setRow_other) | (with_reducible apply Bnd.alloc) | (simp; done) | omega | (simp; omega))); done)) | ((with_reducible apply beq_step); exact rfl; exact rfl; exact rfl; exact rfl; simp only [Act.put, List.setIfInBounds_toArray, List.set_cons_zero, List.set_cons_succ]) | ((with_reducible apply bneq_step); exact rfl; exact rfl; exact rfl; exact rfl; simp only [Act.put, List.setIfInBounds_toArray, List.set_cons_zero, List.set_cons_succ]))
  exact bodyPost_ret (results_bnd_tmp rfl _ _ rfl (by (repeat' (first | (with_reducible assumption) | ((with_reducible apply Bnd.new'); simp; done) | (with_reducible apply Bnd.setRow) | (with_reducible apply Bnd.setRow_other) | (with_reducible apply Bnd.alloc) | (simp; done) | omega | (simp; omega))))) rfl ⟨by rw [optB_split]; rfl, below_setRow B1.out (by omega) _⟩
set_option maxRecDepth 100000 in
set_option maxHeartbeats 4000000 in
theorem refstatic_any (s : Nat → Int) (r : Int) (w : World) (hg : okI (s 0)) :
    Calls Try.prog 76 #[.agg (symA s), .int .i64 r] w fun e w' => e = .returned (optB (bandF r (s 2) (s 0))) ∧ Below w.heap.size w w' := by
  have Hg := hide hg
  clear hg
  have tS : Sym ((w.alloc (.cells (symA s) 49)).alloc (.cells #[.int .i64 0, .int .i64 0] 53)) w.heap.size s := (Sym.new w s).alloc _
  have c0 := tS.cell 0 rfl
  have c1 := tS.cell 2 rfl
  clear tS
  go_enter Try.func76, Try.ntmps76
  go_wp2_with (fail)
  (with_reducible refine (refaround_any r (s 2) (s 0) _ Hg.out).mono ?_)
  rintro e w1 ⟨rfl, hb⟩
  have tR : Bnd w1 (w.heap.size + 1) (.int .i64 0) (.int .i64 0) := Bnd.below (by (repeat' (first | (with_reducible assumption) | ((with_reducible apply Bnd.new'); simp; done) | (with_reducible apply Bnd.setRow) | (with_reducible apply Bnd.setRow_other) | (with_reducible apply Bnd.alloc) | (simp; done) | omega | (simp; omega)))) hb (by simp <;> omega)
  have B1 := hide (keep_below hb (by (repeat' (first | (with_reducible exact Below.refl _ _) | (with_reducible apply below_setRow) | (with_reducible apply Below.alloc) | (simp; done) | omega | (simp; omega)))) (by simp <;> omega) : Below w.heap.size w w1)
  clear hb
  dsimp only
  rw [optB_split]
  go_wp2_with (first | ((with_reducible apply load_bnd); exact rfl; exact rfl; exact rfl; focus ((repeat' (first | (with_reducible assumption) | ((with_reducible apply Bnd.new'); simp; done) | (with_reducible apply Bnd.setRow) | (with_reducible apply Bnd.setRow_other) | (with_reducible apply Bnd.alloc) | (simp; done) | omega | (simp; omega))); done)) | ((with_reducible apply store_bnd); exact rfl; exact rfl; exact rfl; exact rfl; exact rfl; exact rfl; focus ((repeat' (first | (with_reducible assumption) | ((with_reducible apply Bnd.new'); simp; done) | (with_reducible apply Bnd.setRow) | (with_reducible apply Bnd.setRow_other) | (with_reducible apply Bnd.alloc) | (simp; done) | omega | (simp; omega))); done)) | ((with_reducible apply beq_step); exact rfl; exact rfl; exact rfl; exact rfl; simp only [Act.put, List.setIfInBounds_toArray, List.set_cons_zero, List.set_cons_succ]) | ((with_reducible apply bneq_step); exact rfl; exact rfl; exact rfl; exact rfl; simp only [Act.put, List.setIfInBounds_toArray, List.set_cons_zero, List.set_cons_succ]))
  exact bodyPost_ret (results_bnd_tmp rfl _ _ rfl (by (repeat' (first | (with_reducible assumption) | ((with_reducible apply Bnd.new'); simp; done) | (with_reducible apply Bnd.setRow) | (with_reducible apply Bnd.setRow_other) | (with_reducible apply Bnd.alloc) | (simp; done) | omega | (simp; omega))))) rfl ⟨by rw [optB_split]; rfl, below_setRow B1.out (by omega) _⟩
set_option maxRecDepth 100000 in
set_option maxHeartbeats 4000000 in
theorem refdynamic_any (s : Nat → Int) (r : Int) (w : World) (hg : okI (s 0)) :
    Calls Try.prog 77 #[.agg (symA s), .int .i64 r] w fun e w' => e = .returned (optB (bandF r (s 3) (s 0))) ∧ Below w.heap.size w w' := by
  have Hg := hide hg
  clear hg
  have tS : Sym ((w.alloc (.cells (symA s) 49)).alloc (.cells #[.int .i64 0, .int .i64 0] 53)) w.heap.size s := (Sym.new w s).alloc _
  have c0 := tS.cell 0 rfl
  have c1 := tS.cell 3 rfl
  clear tS
  go_enter Try.func77, Try.ntmps77
  go_wp2_with (fail)
  (with_reducible refine (refaround_any r (s 3) (s 0) _ Hg.out).mono ?_)
  rintro e w1 ⟨rfl, hb⟩
  have tR : Bnd w1 (w.heap.size + 1) (.int .i64 0) (.int .i64 0) := Bnd.below (by (repeat' (first | (with_reducible assumption) | ((with_reducible apply Bnd.new'); simp; done) | (with_reducible apply Bnd.setRow) | (with_reducible apply Bnd.setRow_other) | (with_reducible apply Bnd.alloc) | (simp; done) | omega | (simp; omega)))) hb (by simp <;> omega)
  have B1 := hide (keep_below hb (by (repeat' (first | (with_reducible exact Below.refl _ _) | (with_reducible apply below_setRow) | (with_reducible apply Below.alloc) | (simp; done) | omega | (simp; omega)))) (by simp <;> omega) : Below w.heap.size w w1)
  clear hb
  dsimp only
  rw [optB_split]
  go_wp2_with (first | ((with_reducible apply load_bnd); exact rfl; exact rfl; exact rfl; focus ((repeat' (first | (with_reducible assumption) | ((with_reducible apply Bnd.new'); simp; done) | (with_reducible apply Bnd.setRow) | (with_reducible apply Bnd.setRow_other) | (with_reducible apply Bnd.alloc) | (simp; done) | omega | (simp; omega))); done)) | ((with_reducible apply store_bnd); exact rfl; exact rfl; exact rfl; exact rfl; exact rfl; exact rfl; focus ((repeat' (first | (with_reducible assumption) | ((with_reducible apply Bnd.new'); simp; done) | (with_reducible apply Bnd.setRow) | (with_reducible apply Bnd.setRow_other) | (with_reducible apply Bnd.alloc) | (simp; done) | omega | (simp; omega))); done)) | ((with_reducible apply beq_step); exact rfl; exact rfl; exact rfl; exact rfl; simp only [Act.put, List.setIfInBounds_toArray, List.set_cons_zero, List.set_cons_succ]) | ((with_reducible apply bneq_step); exact rfl; exact rfl; exact rfl; exact rfl; simp only [Act.put, List.setIfInBounds_toArray, List.set_cons_zero, List.set_cons_succ]))
  exact bodyPost_ret (results_bnd_tmp rfl _ _ rfl (by (repeat' (first | (with_reducible assumption) | ((with_reducible apply Bnd.new'); simp; done) | (with_reducible apply Bnd.setRow) | (with_reducible apply Bnd.setRow_other) | (with_reducible apply Bnd.alloc) | (simp; done) | omega | (simp; omega))))) rfl ⟨by rw [optB_split]; rfl, below_setRow B1.out (by omega) _⟩
def bothP (a b : Int × Int) : Int × Int := (max a.1 b.1, min a.2 b.2)
def withinF (s : Nat → Int) (first r parts : Int) : Option (Int × Int) := (bandF first (s 2) (s 0)).bind fun a => (bandF r parts (s 0)).map fun b => bothP a b
set_option maxRecDepth 100000 in
set_option maxHeartbeats 4000000 in
theorem within_any (s : Nat → Int) (first r parts : Int) (w : World) (hg : okI (s 0)) :
    Calls Try.prog 114 #[.agg (symA s), .int .i64 first, .int .i64 r, .int .i64 parts] w fun e w' => e = .returned (optB (withinF s first r parts)) ∧ Below w.heap.size w w' := by
  have Hg := hide hg
  clear hg
  go_enter Try.func114, Try.ntmps114
  go_wp2_with (first | ((with_reducible apply load_sym); exact rfl; exact rfl; exact rfl; focus ((repeat' (first | (with_reducible assumption) | ((with_reducible apply Sym.new'); simp; done) | (with_reducible apply Sym.setRow_other) | (with_reducible apply Sym.alloc) | (simp; done) | omega | (simp; omega))); done)) | first | ((with_reducible apply load_bnd); exact rfl; exact rfl; exact rfl; focus ((repeat' (first | (with_reducible assumption) | ((with_reducible apply Bnd.new'); simp; done) | (with_reducible apply Bnd.setRow) | (with_reducible apply Bnd.setRow_other) | (with_reducible apply Bnd.alloc) | (simp; done) | omega | (simp; omega))); done)) | ((with_reducible apply store_bnd); exact rfl; exact rfl; exact rfl; exact rfl; exact rfl; exact rfl; focus ((repeat' (first | (with_reducible assumption) | ((with_reducible apply Bnd.new'); simp; done) | (with_reducible apply Bnd.setRow) | (with_reducible apply Bnd.setRow_other) | (with_reducible apply Bnd.alloc) | (simp; done) | omega | (simp; omega))); done)) | ((with_reducible apply beq_step); exact rfl; exact rfl; exact rfl; exact rfl; simp only [Act.put, List.setIfInBounds_toArray, List.set_cons_zero, List.set_cons_succ]) | ((with_reducible apply bneq_step); exact rfl; exact rfl; exact rfl; exact rfl; simp only [Act.put, List.setIfInBounds_toArray, List.set_cons_zero, List.set_cons_succ]))
  (with_reducible refine (static_any s first _ Hg.out).mono ?_)
  rintro e w1 ⟨rfl, hb⟩
  have tS : Sym w1 w.heap.size s := Sym.below (by (repeat' (first | (with_reducible assumption) | ((with_reducible apply Sym.new'); simp; done) | (with_reducible apply Sym.setRow_other) | (with_reducible apply Sym.alloc) | (simp; done) | omega | (simp; omega)))) hb (by simp <;> omega)
  have tR : Bnd w1 (w.heap.size + 1) (.int .i64 0) (.int .i64 0) := Bnd.below (by (repeat' (first | (with_reducible assumption) | ((with_reducible apply Bnd.new'); simp; done) | (with_reducible apply Bnd.setRow) | (with_reducible apply Bnd.setRow_other) | (with_reducible apply Bnd.alloc) | (simp; done) | omega | (simp; omega)))) hb (by simp <;> omega)
  have B1 := hide (keep_below hb (by (repeat' (first | (with_reducible exact Below.refl _ _) | (with_reducible apply below_setRow) | (with_reducible apply Below.alloc) | (simp; done) | omega | (simp; omega)))) (by simp <;> omega) : Below w.heap.size w w1)
  clear hb
  dsimp only
  obtain ⟨O1, hO1⟩ : ∃ O, O = bandF first (s 2) (s 0) := ⟨_, rfl⟩
  rw [← hO1, optB_split]
  have HO1 := hide hO1
  clear hO1
  generalize hx : (O1.getD (0, 0)).1 = x at *
  generalize hy : (O1.getD (0, 0)).2 = y at *
  have c0 := ((tS.alloc (.cells #[.int .i64 0, .int .i64 0] 53)).setRow_other (c := w1.heap.size) #[.int .i64 x, .int .i64 y] (Nat.ne_of_lt tS.lt)).cell 0 rfl
  go_wp2_with (first | ((with_reducible apply load_sym); exact rfl; exact rfl; exact rfl; focus ((repeat' (first | (with_reducible assumption) | ((with_reducible apply Sym.new'); simp; done) | (with_reducible apply Sym.setRow_other) | (with_reducible apply Sym.alloc) | (simp; done) | omega | (simp; omega))); done)) | first | ((with_reducible apply load_bnd); exact rfl; exact rfl; exact rfl; focus ((repeat' (first | (with_reducible assumption) | ((with_reducible apply Bnd.new'); simp; done) | (with_reducible apply Bnd.setRow) | (with_reducible apply Bnd.setRow_other) | (with_reducible apply Bnd.alloc) | (simp; done) | omega | (simp; omega))); done)) | ((with_reducible apply store_bnd); exact rfl; exact rfl; exact rfl; exact rfl; exact rfl; exact rfl; focus ((repeat' (first | (with_reducible assumption) | ((with_reducible apply Bnd.new'); simp; done) | (with_reducible apply Bnd.setRow) | (with_reducible apply Bnd.setRow_other) | (with_reducible apply Bnd.alloc) | (simp; done) | omega | (simp; omega))); done)) | ((with_reducible apply beq_step); exact rfl; exact rfl; exact rfl; exact rfl; simp only [Act.put, List.setIfInBounds_toArray, List.set_cons_zero, List.set_cons_succ]) | ((with_reducible apply bneq_step); exact rfl; exact rfl; exact rfl; exact rfl; simp only [Act.put, List.setIfInBounds_toArray, List.set_cons_zero, List.set_cons_succ]))
  (with_reducible refine (around_any r parts (s 0) _ Hg.out).mono ?_)
  rintro e w2 ⟨rfl, hb⟩
  have l1 := tR.lt
  have tA : Bnd w2 w1.heap.size (.int .i64 x) (.int .i64 y) := Bnd.below (by (repeat' (first | (with_reducible assumption) | ((with_reducible apply Bnd.new'); simp; done) | (with_reducible apply Bnd.setRow) | (with_reducible apply Bnd.setRow_other) | (with_reducible apply Bnd.alloc) | (simp; done) | omega | (simp; omega)))) hb (by simp <;> omega)
  have tR2 : Bnd w2 (w.heap.size + 1) (.int .i64 0) (.int .i64 0) := Bnd.below (by (repeat' (first | (with_reducible assumption) | ((with_reducible apply Bnd.new'); simp; done) | (with_reducible apply Bnd.setRow) | (with_reducible apply Bnd.setRow_other) | (with_reducible apply Bnd.alloc) | (simp; done) | omega | (simp; omega)))) hb (by have := tR.lt; simp <;> omega)
  have B2 := hide (B1.out.trans ((keep_below hb (by (repeat' (first | (with_reducible exact Below.refl _ _) | (with_reducible apply below_setRow) | (with_reducible apply Below.alloc) | (simp; done) | omega | (simp; omega)))) (by simp <;> omega) : Below w1.heap.size w1 w2).mono B1.out.size))
  clear hb B1 c0 tS tR
  dsimp only
  obtain ⟨O2, hO2⟩ : ∃ O, O = bandF r parts (s 0) := ⟨_, rfl⟩
  rw [← hO2, optB_split]
  have HO2 := hide hO2
  clear hO2
  generalize hu : (O2.getD (0, 0)).1 = u at *
  generalize hv : (O2.getD (0, 0)).2 = v at *
  have l2 := tA.lt
  cases O1 with
  | none =>
    have HO : Hid (withinF s first r parts = none) := hide (by unfold withinF; rw [← HO1.out]; rfl)
    have e1 : (none : Option (Int × Int)).isSome = false := rfl
    go_wp2_with (first | ((with_reducible apply load_sym); exact rfl; exact rfl; exact rfl; focus ((repeat' (first | (with_reducible assumption) | ((with_reducible apply Sym.new'); simp; done) | (with_reducible apply Sym.setRow_other) | (with_reducible apply Sym.alloc) | (simp; done) | omega | (simp; omega))); done)) | first | ((with_reducible apply load_bnd); exact rfl; exact rfl; exact rfl; focus ((repeat' (first | (with_reducible assumption) | ((with_reducible apply Bnd.new'); simp; done) | (with_reducible apply Bnd.setRow) | (with_reducible apply Bnd.setRow_other) | (with_reducible apply Bnd.alloc) | (simp; done) | omega | (simp; omega))); done)) | ((with_reducible apply store_bnd); exact rfl; exact rfl; exact rfl; exact rfl; exact rfl; exact rfl; focus ((repeat' (first | (with_reducible assumption) | ((with_reducible apply Bnd.new'); simp; done) | (with_reducible apply Bnd.setRow) | (with_reducible apply Bnd.setRow_other) | (with_reducible apply Bnd.alloc) | (simp; done) | omega | (simp; omega))); done)) | ((with_reducible apply beq_step); exact rfl; exact rfl; exact rfl; exact rfl; simp only [Act.put, List.setIfInBounds_toArray, List.set_cons_zero, List.set_cons_succ]) | ((with_reducible apply bneq_step); exact rfl; exact rfl; exact rfl; exact rfl; simp only [Act.put, List.setIfInBounds_toArray, List.set_cons_zero, List.set_cons_succ]))
    exact bodyPost_ret (results_bnd_tmp rfl _ _ rfl (by (repeat' (first | (with_reducible assumption) | ((with_reducible apply Bnd.new'); simp; done) | (with_reducible apply Bnd.setRow) | (with_reducible apply Bnd.setRow_other) | (with_reducible apply Bnd.alloc) | (simp; done) | omega | (simp; omega))))) rfl ⟨by rw [HO.out]; rfl, below_setRow (below_setRow (B2.out.alloc B2.out.size _) B2.out.size _) (by omega) _⟩
  | some p =>
    cases O2 with
    | none =>
      have HO : Hid (withinF s first r parts = none) := hide (by unfold withinF; rw [← HO1.out, ← HO2.out]; rfl)
      go_wp2_with (first | ((with_reducible apply load_sym); exact rfl; exact rfl; exact rfl; focus ((repeat' (first | (with_reducible assumption) | ((with_reducible apply Sym.new'); simp; done) | (with_reducible apply Sym.setRow_other) | (with_reducible apply Sym.alloc) | (simp; done) | omega | (simp; omega))); done)) | first | ((with_reducible apply load_bnd); exact rfl; exact rfl; exact rfl; focus ((repeat' (first | (with_reducible assumption) | ((with_reducible apply Bnd.new'); simp; done) | (with_reducible apply Bnd.setRow) | (with_reducible apply Bnd.setRow_other) | (with_reducible apply Bnd.alloc) | (simp; done) | omega | (simp; omega))); done)) | ((with_reducible apply store_bnd); exact rfl; exact rfl; exact rfl; exact rfl; exact rfl; exact rfl; focus ((repeat' (first | (with_reducible assumption) | ((with_reducible apply Bnd.new'); simp; done) | (with_reducible apply Bnd.setRow) | (with_reducible apply Bnd.setRow_other) | (with_reducible apply Bnd.alloc) | (simp; done) | omega | (simp; omega))); done)) | ((with_reducible apply beq_step); exact rfl; exact rfl; exact rfl; exact rfl; simp only [Act.put, List.setIfInBounds_toArray, List.set_cons_zero, List.set_cons_succ]) | ((with_reducible apply bneq_step); exact rfl; exact rfl; exact rfl; exact rfl; simp only [Act.put, List.setIfInBounds_toArray, List.set_cons_zero, List.set_cons_succ]))
      exact bodyPost_ret (results_bnd_tmp rfl _ _ rfl (by (repeat' (first | (with_reducible assumption) | ((with_reducible apply Bnd.new'); simp; done) | (with_reducible apply Bnd.setRow) | (with_reducible apply Bnd.setRow_other) | (with_reducible apply Bnd.alloc) | (simp; done) | omega | (simp; omega))))) rfl ⟨by rw [HO.out]; rfl, below_setRow (below_setRow (B2.out.alloc B2.out.size _) B2.out.size _) (by omega) _⟩
    | some q =>
      have HO : Hid (withinF s first r parts = some (bothP p q)) := hide (by unfold withinF; rw [← HO1.out, ← HO2.out]; rfl)
      have hp : p = (x, y) := by rw [← hx, ← hy]; rfl
      have hq : q = (u, v) := by rw [← hu, ← hv]; rfl
      have HP := hide hp
      have HQ := hide hq
      clear hx hy hu hv hp hq
      go_wp2_with (first | ((with_reducible apply load_sym); exact rfl; exact rfl; exact rfl; focus ((repeat' (first | (with_reducible assumption) | ((with_reducible apply Sym.new'); simp; done) | (with_reducible apply Sym.setRow_other) | (with_reducible apply Sym.alloc) | (simp; done) | omega | (simp; omega))); done)) | first | ((with_reducible apply load_bnd); exact rfl; exact rfl; exact rfl; focus ((repeat' (first | (with_reducible assumption) | ((with_reducible apply Bnd.new'); simp; done) | (with_reducible apply Bnd.setRow) | (with_reducible apply Bnd.setRow_other) | (with_reducible apply Bnd.alloc) | (simp; done) | omega | (simp; omega))); done)) | ((with_reducible apply store_bnd); exact rfl; exact rfl; exact rfl; exact rfl; exact rfl; exact rfl; focus ((repeat' (first | (with_reducible assumption) | ((with_reducible apply Bnd.new'); simp; done) | (with_reducible apply Bnd.setRow) | (with_reducible apply Bnd.setRow_other) | (with_reducible apply Bnd.alloc) | (simp; done) | omega | (simp; omega))); done)) | ((with_reducible apply beq_step); exact rfl; exact rfl; exact rfl; exact rfl; simp only [Act.put, List.setIfInBounds_toArray, List.set_cons_zero, List.set_cons_succ]) | ((with_reducible apply bneq_step); exact rfl; exact rfl; exact rfl; exact rfl; simp only [Act.put, List.setIfInBounds_toArray, List.set_cons_zero, List.set_cons_succ]))
      (with_reducible refine (common_any x y u v _ _ (Bnd.new' _ _ (by simp))).mono ?_)
      rintro e w3 ⟨rfl, hb⟩
      have tR3 : Bnd w3 (w.heap.size + 1) (.int .i64 0) (.int .i64 0) := Bnd.below (by (repeat' (first | (with_reducible assumption) | ((with_reducible apply Bnd.new'); simp; done) | (with_reducible apply Bnd.setRow) | (with_reducible apply Bnd.setRow_other) | (with_reducible apply Bnd.alloc) | (simp; done) | omega | (simp; omega)))) hb (by simp <;> omega)
      have B3 := hide (B2.out.trans ((keep_below hb (by (repeat' (first | (with_reducible exact Below.refl _ _) | (with_reducible apply below_setRow) | (with_reducible apply Below.alloc) | (simp; done) | omega | (simp; omega)))) (by simp <;> omega) : Below w2.heap.size w2 w3).mono B2.out.size))
      clear hb tR2 tA
      dsimp only
      have l3 := tR3.lt
      go_wp2_with (first | ((with_reducible apply load_sym); exact rfl; exact rfl; exact rfl; focus ((repeat' (first | (with_reducible assumption) | ((with_reducible apply Sym.new'); simp; done) | (with_reducible apply Sym.setRow_other) | (with_reducible apply Sym.alloc) | (simp; done) | omega | (simp; omega))); done)) | first | ((with_reducible apply load_bnd); exact rfl; exact rfl; exact rfl; focus ((repeat' (first | (with_reducible assumption) | ((with_reducible apply Bnd.new'); simp; done) | (with_reducible apply Bnd.setRow) | (with_reducible apply Bnd.setRow_other) | (with_reducible apply Bnd.alloc) | (simp; done) | omega | (simp; omega))); done)) | ((with_reducible apply store_bnd); exact rfl; exact rfl; exact rfl; exact rfl; exact rfl; exact rfl; focus ((repeat' (first | (with_reducible assumption) | ((with_reducible apply Bnd.new'); simp; done) | (with_reducible apply Bnd.setRow) | (with_reducible apply Bnd.setRow_other) | (with_reducible apply Bnd.alloc) | (simp; done) | omega | (simp; omega))); done)) | ((with_reducible apply beq_step); exact rfl; exact rfl; exact rfl; exact rfl; simp only [Act.put, List.setIfInBounds_toArray, List.set_cons_zero, List.set_cons_succ]) | ((with_reducible apply bneq_step); exact rfl; exact rfl; exact rfl; exact rfl; simp only [Act.put, List.setIfInBounds_toArray, List.set_cons_zero, List.set_cons_succ]))
      exact bodyPost_ret (results_bnd_tmp rfl _ _ rfl (by (repeat' (first | (with_reducible assumption) | ((with_reducible apply Bnd.new'); simp; done) | (with_reducible apply Bnd.setRow) | (with_reducible apply Bnd.setRow_other) | (with_reducible apply Bnd.alloc) | (simp; done) | omega | (simp; omega))))) rfl ⟨by rw [HO.out, HP.out, HQ.out]; rfl, below_setRow B3.out (by omega) _⟩
set_option maxRecDepth 100000 in
set_option maxHeartbeats 4000000 in
theorem bandof_any (s : Nat → Int) (first r : Int) (w : World) (hg : okI (s 0)) :
    Calls Try.prog 44 #[.agg (symA s), .int .i64 first, .int .i64 r] w fun e w' => e = .returned (optB (withinF s first r (s 3))) ∧ Below w.heap.size w w' := by
  have Hg := hide hg
  clear hg
  have tS : Sym ((w.alloc (.cells (symA s) 49)).alloc (.cells #[.int .i64 0, .int .i64 0] 53)) w.heap.size s := (Sym.new w s).alloc _
  have c0 := tS.cell 3 rfl
  go_enter Try.func44, Try.ntmps44
  go_wp2_with (first | ((with_reducible apply load_sym); exact rfl; exact rfl; exact rfl; focus ((repeat' (first | (with_reducible assumption) | ((with_reducible apply Sym.new'); simp; done) | (with_reducible apply Sym.setRow_other) | (with_reducible apply Sym.alloc) | (simp; done) | omega | (simp; omega))); done)) | first | ((with_reducible apply load_bnd); exact rfl; exact rfl; exact rfl; focus ((repeat' (first | (with_reducible assumption) | ((with_reducible apply Bnd.new'); simp; done) | (with_reducible apply Bnd.setRow) | (with_reducible apply Bnd.setRow_other) | (with_reducible apply Bnd.alloc) | (simp; done) | omega | (simp; omega))); done)) | ((with_reducible apply store_bnd); exact rfl; exact rfl; exact rfl; exact rfl; exact rfl; exact rfl; focus ((repeat' (first | (with_reducible assumption) | ((with_reducible apply Bnd.new'); simp; done) | (with_reducible apply Bnd.setRow) | (with_reducible apply Bnd.setRow_other) | (with_reducible apply Bnd.alloc) | (simp; done) | omega | (simp; omega))); done)) | ((with_reducible apply beq_step); exact rfl; exact rfl; exact rfl; exact rfl; simp only [Act.put, List.setIfInBounds_toArray, List.set_cons_zero, List.set_cons_succ]) | ((with_reducible apply bneq_step); exact rfl; exact rfl; exact rfl; exact rfl; simp only [Act.put, List.setIfInBounds_toArray, List.set_cons_zero, List.set_cons_succ]))
  (with_reducible refine (within_any s first r (s 3) _ Hg.out).mono ?_)
  rintro e w1 ⟨rfl, hb⟩
  have tR : Bnd w1 (w.heap.size + 1) (.int .i64 0) (.int .i64 0) := Bnd.below (by (repeat' (first | (with_reducible assumption) | ((with_reducible apply Bnd.new'); simp; done) | (with_reducible apply Bnd.setRow) | (with_reducible apply Bnd.setRow_other) | (with_reducible apply Bnd.alloc) | (simp; done) | omega | (simp; omega)))) hb (by simp <;> omega)
  have B1 := hide (keep_below hb (by (repeat' (first | (with_reducible exact Below.refl _ _) | (with_reducible apply below_setRow) | (with_reducible apply Below.alloc) | (simp; done) | omega | (simp; omega)))) (by simp <;> omega) : Below w.heap.size w w1)
  clear hb
  dsimp only
  rw [optB_split]
  go_wp2_with (first | ((with_reducible apply load_bnd); exact rfl; exact rfl; exact rfl; focus ((repeat' (first | (with_reducible assumption) | ((with_reducible apply Bnd.new'); simp; done) | (with_reducible apply Bnd.setRow) | (with_reducible apply Bnd.setRow_other) | (with_reducible apply Bnd.alloc) | (simp; done) | omega | (simp; omega))); done)) | ((with_reducible apply store_bnd); exact rfl; exact rfl; exact rfl; exact rfl; exact rfl; exact rfl; focus ((repeat' (first | (with_reducible assumption) | ((with_reducible apply Bnd.new'); simp; done) | (with_reducible apply Bnd.setRow) | (with_reducible apply Bnd.setRow_other) | (with_reducible apply Bnd.alloc) | (simp; done) | omega | (simp; omega))); done)) | ((with_reducible apply beq_step); exact rfl; exact rfl; exact rfl; exact rfl; simp only [Act.put, List.setIfInBounds_toArray, List.set_cons_zero, List.set_cons_succ]) | ((with_reducible apply bneq_step); exact rfl; exact rfl; exact rfl; exact rfl; simp only [Act.put, List.setIfInBounds_toArray, List.set_cons_zero, List.set_cons_succ]))
  exact bodyPost_ret (results_bnd_tmp rfl _ _ rfl (by (repeat' (first | (with_reducible assumption) | ((with_reducible apply Bnd.new'); simp; done) | (with_reducible apply Bnd.setRow) | (with_reducible apply Bnd.setRow_other) | (with_reducible apply Bnd.alloc) | (simp; done) | omega | (simp; omega))))) rfl ⟨by rw [optB_split]; rfl, below_setRow B1.out (by omega) _⟩
end Go.Proofs.Ytadilccdipcmnaa
