/- The chapter's example of a band. No condition. -/
import Derived.Test.YtadilccdipcmnaaBandE
namespace Go.Proofs.Ytadilccdipcmnaa
open Go Go.RowKit
attribute [local go_sem] field_bnd0 field_bnd1

theorem field_cfg (sl : Value) (b : Nat) (w : World) : (Instr.field 124 (.agg (cfgA sl b)) 0).run Try.prog w = .ok sl w := by kernel_rfl
attribute [local go_sem] field_cfg
theorem part_cell {w : World} {k i t : Nat} {a cs : Array Value} {fz : Nat × Nat} (h : w.heap[k]? = some (.cells (a ++ cs) t fz)) (hi : i < a.size) : w.cell? ⟨k, i, none⟩ = a[i]? := by
  rw [cell_of_row w k i _ _ _ h, Array.getElem?_append_left hi]
theorem plain_band : withinF plainS 1000 1000 (plainS 3) = some (950, 1050) := by decide +kernel
set_option maxRecDepth 100000 in
set_option maxHeartbeats 4000000 in
theorem alive20_any (w : World) : Calls Try.prog 41 #[] w fun e w' => e = .returned (.bool true) ∧ Below w.heap.size w w' := by
  have HI1 : Hid (inF 950 1050 950 = true) := hide (by decide)
  have HI2 : Hid (inF 950 1050 949 = false) := hide (by decide)
  go_enter Try.func41, Try.ntmps41
  go_wp2_with (fail)
  (with_reducible refine (plain_one _).mono ?_)
  rintro e w1 ⟨k, c, b, cs, rfl, hk, hb⟩
  have B1 := hide hb
  have c0 : w1.cell? ⟨k, 0, none⟩ = some (.int .i64 (plainS 0)) := (part_cell hk (by decide)).trans rfl
  have c1 : w1.cell? ⟨k, 1, none⟩ = some (.int .i64 (plainS 1)) := (part_cell hk (by decide)).trans rfl
  have c2 : w1.cell? ⟨k, 2, none⟩ = some (.int .i64 (plainS 2)) := (part_cell hk (by decide)).trans rfl
  have c3 : w1.cell? ⟨k, 3, none⟩ = some (.int .i64 (plainS 3)) := (part_cell hk (by decide)).trans rfl
  have c4 : w1.cell? ⟨k, 4, none⟩ = some (.int .i64 (plainS 4)) := (part_cell hk (by decide)).trans rfl
  have c5 : w1.cell? ⟨k, 5, none⟩ = some (.int .i64 (plainS 5)) := (part_cell hk (by decide)).trans rfl
  have c6 : w1.cell? ⟨k, 6, none⟩ = some (.int .i64 (plainS 6)) := (part_cell hk (by decide)).trans rfl
  have c7 : w1.cell? ⟨k, 7, none⟩ = some (.int .i64 (plainS 7)) := (part_cell hk (by decide)).trans rfl
  have c8 : w1.cell? ⟨k, 8, none⟩ = some (.int .i64 (plainS 8)) := (part_cell hk (by decide)).trans rfl
  have c9 : w1.cell? ⟨k, 9, none⟩ = some (.int .i64 (plainS 9)) := (part_cell hk (by decide)).trans rfl
  have c10 : w1.cell? ⟨k, 10, none⟩ = some (.int .i64 (plainS 10)) := (part_cell hk (by decide)).trans rfl
  have c11 : w1.cell? ⟨k, 11, none⟩ = some (.int .i64 (plainS 11)) := (part_cell hk (by decide)).trans rfl
  have c12 : w1.cell? ⟨k, 12, none⟩ = some (.int .i64 (plainS 12)) := (part_cell hk (by decide)).trans rfl
  have c13 : w1.cell? ⟨k, 13, none⟩ = some (.int .i64 (plainS 13)) := (part_cell hk (by decide)).trans rfl
  have c14 : w1.cell? ⟨k, 14, none⟩ = some (.int .i64 (plainS 14)) := (part_cell hk (by decide)).trans rfl
  have c15 : w1.cell? ⟨k, 15, none⟩ = some (.int .i64 (plainS 15)) := (part_cell hk (by decide)).trans rfl
  clear hk hb
  dsimp only
  go_wp2_with (fail)
  (with_reducible refine (bandof_any plainS 1000 1000 _ (by decide)).mono ?_)
  rintro e w2 ⟨rfl, hb⟩
  have B2 := hide (B1.out.trans (hb.mono B1.out.size))
  clear hb c0 c1 c2 c3 c4 c5 c6 c7 c8 c9 c10 c11 c12 c13 c14 c15
  rw [plain_band, optB_some]
  dsimp only
  go_wp2_with (first | first | ((with_reducible apply load_bnd); exact rfl; exact rfl; exact rfl; focus ((repeat' (first | (with_reducible assumption) | ((with_reducible apply Bnd.new'); simp; done) | (with_reducible apply Bnd.setRow) | (with_reducible apply Bnd.setRow_other) | (with_reducible apply Bnd.alloc) | (simp; done) | omega | (simp; omega))); done)) | ((with_reducible apply store_bnd); exact rfl; exact rfl; exact rfl; exact rfl; exact rfl; exact rfl; focus ((repeat' (first | (with_reducible assumption) | ((with_reducible apply Bnd.new'); simp; done) | (with_reducible apply Bnd.setRow) | (with_reducible apply Bnd.setRow_other) | (with_reducible apply Bnd.alloc) | (simp; done) | omega | (simp; omega))); done)) | ((with_reducible apply beq_step); exact rfl; exact rfl; exact rfl; exact rfl; simp only [Act.put, List.setIfInBounds_toArray, List.set_cons_zero, List.set_cons_succ]) | ((with_reducible apply bneq_step); exact rfl; exact rfl; exact rfl; exact rfl; simp only [Act.put, List.setIfInBounds_toArray, List.set_cons_zero, List.set_cons_succ]) | first | ((with_reducible apply gload_bnd); exact rfl; exact rfl; exact rfl; focus ((repeat' (first | (with_reducible assumption) | ((with_reducible apply Bnd.new'); simp; done) | (with_reducible apply Bnd.setRow) | (with_reducible apply Bnd.setRow_other) | (with_reducible apply Bnd.alloc) | (simp; done) | omega | (simp; omega))); done)) | ((with_reducible apply geq_bnd); exact rfl; exact rfl; exact rfl; exact rfl; simp only [Act.put, List.setIfInBounds_toArray, List.set_cons_zero, List.set_cons_succ]) | ((with_reducible apply gneq_bnd); exact rfl; exact rfl; exact rfl; exact rfl; simp only [Act.put, List.setIfInBounds_toArray, List.set_cons_zero, List.set_cons_succ]))
  (with_reducible refine (in_any 950 1050 950 _).mono ?_)
  rintro e w3 ⟨rfl, hb⟩
  have tB : Bnd w3 w2.heap.size (.int .i64 950) (.int .i64 1050) := Bnd.below (by (repeat' (first | (with_reducible assumption) | ((with_reducible apply Bnd.new'); simp; done) | (with_reducible apply Bnd.setRow) | (with_reducible apply Bnd.setRow_other) | (with_reducible apply Bnd.alloc) | (simp; done) | omega | (simp; omega)))) hb (by simp <;> omega)
  have B3 := hide (B2.out.trans ((keep_below hb (by (repeat' (first | (with_reducible exact Below.refl _ _) | (with_reducible apply below_setRow) | (with_reducible apply Below.alloc) | (simp; done) | omega | (simp; omega)))) (by simp <;> omega) : Below w2.heap.size w2 w3).mono B2.out.size))
  clear hb
  rw [HI1.out]
  dsimp only
  go_wp2_with (first | first | ((with_reducible apply load_bnd); exact rfl; exact rfl; exact rfl; focus ((repeat' (first | (with_reducible assumption) | ((with_reducible apply Bnd.new'); simp; done) | (with_reducible apply Bnd.setRow) | (with_reducible apply Bnd.setRow_other) | (with_reducible apply Bnd.alloc) | (simp; done) | omega | (simp; omega))); done)) | ((with_reducible apply store_bnd); exact rfl; exact rfl; exact rfl; exact rfl; exact rfl; exact rfl; focus ((repeat' (first | (with_reducible assumption) | ((with_reducible apply Bnd.new'); simp; done) | (with_reducible apply Bnd.setRow) | (with_reducible apply Bnd.setRow_other) | (with_reducible apply Bnd.alloc) | (simp; done) | omega | (simp; omega))); done)) | ((with_reducible apply beq_step); exact rfl; exact rfl; exact rfl; exact rfl; simp only [Act.put, List.setIfInBounds_toArray, List.set_cons_zero, List.set_cons_succ]) | ((with_reducible apply bneq_step); exact rfl; exact rfl; exact rfl; exact rfl; simp only [Act.put, List.setIfInBounds_toArray, List.set_cons_zero, List.set_cons_succ]) | first | ((with_reducible apply gload_bnd); exact rfl; exact rfl; exact rfl; focus ((repeat' (first | (with_reducible assumption) | ((with_reducible apply Bnd.new'); simp; done) | (with_reducible apply Bnd.setRow) | (with_reducible apply Bnd.setRow_other) | (with_reducible apply Bnd.alloc) | (simp; done) | omega | (simp; omega))); done)) | ((with_reducible apply geq_bnd); exact rfl; exact rfl; exact rfl; exact rfl; simp only [Act.put, List.setIfInBounds_toArray, List.set_cons_zero, List.set_cons_succ]) | ((with_reducible apply gneq_bnd); exact rfl; exact rfl; exact rfl; exact rfl; simp only [Act.put, List.setIfInBounds_toArray, List.set_cons_zero, List.set_cons_succ]))
  (with_reducible refine (in_any 950 1050 949 _).mono ?_)
  rintro e w4 ⟨rfl, hb⟩
  have B4 := hide (B3.out.trans (hb.mono B3.out.size))
  clear hb tB
  rw [HI2.out]
  dsimp only
  go_wp2
  go_ret
  exact ⟨rfl, B4.out⟩
end Go.Proofs.Ytadilccdipcmnaa
