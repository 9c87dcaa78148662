/- The law's plain configuration, and the chapter's example of a band. No condition. -/
import Derived.Test.YtadilccdipcmnaaBandD
namespace Go.Proofs.Ytadilccdipcmnaa
open Go Go.RowKit
attribute [local go_sem] field_bnd0 field_bnd1

def plainS (i : Nat) : Int := ([5, 1000, 2000, 500, 20, 100, 3, 10, 5, 2, 500, 500, 1, 40, 12, 1000] : List Int).getD i 0
abbrev cfgA (sl : Value) (b : Nat) : Array Value := #[sl, .slice (some ⟨b, 0, none⟩) 3 3, .int .i64 10000, .int .i64 700, .int .i64 1300, .int .i64 2000, .int .i64 15, .int .i64 30]
abbrev cfgZ : Array Value := #[.slice none 0 0, .slice none 0 0, .int .i64 0, .int .i64 0, .int .i64 0, .int .i64 0, .int .i64 0, .int .i64 0]
theorem size124 : (Try.prog.info? 124).map (·.size) = some 8 := by kernel_rfl
def Cfg (w : World) (b : Nat) (cs : Array Value) : Prop := w.heap[b]? = some (.cells cs 124 (0, 0))
section
variable {ops : Array Oper} {rest : List Oper} {o : Oper} {a : Act} {w : World} {Q : Exit → Act → World → Prop} {sl : Value} {b g : Nat}
theorem load_cfg (hgd : o.guard = none) (x : Operand) (ho : o.op = .load 124 x) (hx : a.eval x = .pointer (some ⟨g, 0, none⟩)) (hg : Cfg w g (cfgA sl b))
    (h : wpList Try.prog ops Q rest (a.put o.dst (.agg (cfgA sl b))) w) : wpList Try.prog ops Q (o :: rest) a w :=
  wpList_load_row hgd 124 x ho g hx 124 (cfgA sl b) (0, 0) _ hg Try.underlying124 rfl size124 h
theorem store_cfg {c : Nat} {ad : Addr} {m : Nat} (hgd : o.guard = none) (x y : Operand) (ho : o.op = .store 124 x y) (hx : a.eval x = .pointer (some ⟨g, 0, none⟩)) (hy : a.eval y = .agg (cfgA (.slice (some ad) m c) b)) (hg : Cfg w g cfgZ)
    (h : wpList Try.prog ops Q rest (a.put o.dst undef) (w.setRow g (cfgA (.slice (some ad) m c) b))) : wpList Try.prog ops Q (o :: rest) a w :=
  wpList_store_row hgd 124 x y ho g (cfgA (.slice (some ad) m c) b) hx hy 124 cfgZ hg size124 rfl (by simp [Value.oneCell']) h
end
theorem results_cfg {fn : Func} {p : Tmp} {cs : Array Value} {g : Nat} (h : fn.results = #[.cell p 124]) (tmps : Array Value) (w : World) (hp : tmps.getD p undef = .pointer (some ⟨g, 0, none⟩)) (hg : Cfg w g cs) (hs : cs.size = 8) :
    (results fn tmps).run Try.prog w = .ok (.agg cs) w :=
  results_cell_row h tmps w g 124 cs (0, 0) _ hp hg Try.underlying124 rfl (by rw [hs]; exact size124)

theorem Cfg.alloc {w : World} {b : Nat} {cs : Array Value} (h : Cfg w b cs) (o : Obj) : Cfg (w.alloc o) b cs := by
  unfold Cfg
  rw [Below.heap_alloc w o b (lt_of_block h)]
  exact h
theorem Cfg.setCell {w : World} {b : Nat} {cs : Array Value} (h : Cfg w b cs) {p : Addr} (v : Value) (hn : b ≠ p.block) : Cfg (w.setCell p v) b cs := by
  unfold Cfg
  rw [Below.heap_setCell w p v b hn]
  exact h
theorem heap_alloc_at (w : World) (o : Obj) {n : Nat} (h : w.heap.size = n) : (w.alloc o).heap[n]? = some o := by
  subst h
  exact heap_alloc_new w o
set_option maxRecDepth 100000 in
set_option maxHeartbeats 4000000 in
theorem plain_one (w : World) :
    Calls Try.prog 112 #[.int .i64 1] w fun e w' => ∃ k c b cs, e = .returned (.agg (cfgA (.slice (some ⟨k, 0, none⟩) 1 c) b)) ∧ w'.heap[k]? = some (.cells (symA plainS ++ cs) 49 (0, 0)) ∧ Below w.heap.size w w' := by
  go_enter Try.func112, Try.ntmps112
  go_wp2
  obtain ⟨N, hN⟩ : ∃ N, N = w.heap.size := ⟨_, rfl⟩
  rw [← hN]
  have HN := hide hN
  clear hN
  go_loopw [5] (fun i wr => (i = .int .i64 0 ∧ Cfg wr (N + 1 + 1 + 1) (cfgA (.slice none 0 0) (N + 1 + 1)) ∧ Cfg wr N cfgZ ∧ Below N w wr ∧ wr.heap.size = N + 4 ∧ Sym wr (N + 1) plainS) ∨
    (i = .int .i64 1 ∧ ∃ k c cs, N < k ∧ Cfg wr (N + 1 + 1 + 1) (cfgA (.slice (some ⟨k, 0, none⟩) 1 c) (N + 1 + 1)) ∧ Cfg wr N cfgZ ∧ wr.heap[k]? = some (.cells (symA plainS ++ cs) 49 (0, 0)) ∧ Below N w wr)) (fun i _ => (1 - intOf i).toNat)
  case atStart =>
    refine .inl ⟨rfl, ?_, ?_, ?_, by simp [HN.out], ?_⟩
    · exact heap_alloc_at _ _ (by simp [HN.out])
    · exact Cfg.alloc (Cfg.alloc (Cfg.alloc (heap_alloc_at _ _ HN.out.symm) _) _) _
    · rw [HN.out]
      exact (by (repeat' (first | (with_reducible exact Below.refl _ _) | (with_reducible apply below_setRow) | (with_reducible apply Below.alloc) | (simp; done) | omega | (simp; omega))))
    · apply Sym.alloc
      apply Sym.alloc
      exact heap_alloc_at _ _ (by simp [HN.out])
  case round =>
    rcases hrel with ⟨rfl, hC, hZ, hB, hsz, hS⟩ | ⟨rfl, k, c, cs, hk, hC, hZ, hK, hB⟩
    · have c0 : wr.cell? ⟨N + 1 + 1 + 1, 0, none⟩ = some (.slice none 0 0) := by rw [cell_of_row _ _ 0 _ _ _ hC]; rfl
      have f0 : wr.frozen? ⟨N + 1 + 1 + 1, 0, none⟩ = false := frozen_of_row wr (N + 1 + 1 + 1) 0 _ _ hC
      go_wp2_with (first | ((with_reducible apply load_sym); exact rfl; exact rfl; exact rfl; focus ((repeat' (first | (with_reducible assumption) | ((with_reducible apply Sym.new'); simp; done) | (with_reducible apply Sym.setRow_other) | (with_reducible apply Sym.alloc) | (simp; done) | omega | (simp; omega))); done)) | first | ((with_reducible apply load_bnd); exact rfl; exact rfl; exact rfl; focus ((repeat' (first | (with_reducible assumption) | ((with_reducible apply Bnd.new'); simp; done) | (with_reducible apply Bnd.setRow) | (with_reducible apply Bnd.setRow_other) | (with_reducible apply Bnd.alloc) | (simp; done) | omega | (simp; omega))); done)) | ((with_reducible apply store_bnd); exact rfl; exact rfl; exact rfl; exact rfl; exact rfl; exact rfl; focus ((repeat' (first | (with_reducible assumption) | ((with_reducible apply Bnd.new'); simp; done) | (with_reducible apply Bnd.setRow) | (with_reducible apply Bnd.setRow_other) | (with_reducible apply Bnd.alloc) | (simp; done) | omega | (simp; omega))); done)) | ((with_reducible apply beq_step); exact rfl; exact rfl; exact rfl; exact rfl; simp only [Act.put, List.setIfInBounds_toArray, List.set_cons_zero, List.set_cons_succ]) | ((with_reducible apply bneq_step); exact rfl; exact rfl; exact rfl; exact rfl; simp only [Act.put, List.setIfInBounds_toArray, List.set_cons_zero, List.set_cons_succ]))
      refine ⟨?_, by simp [intOf]⟩
      · refine Or.inr ?_
        refine And.intro (by go_num) ?_
        refine Exists.intro (N + 4 + 1) ?_
        refine Exists.intro ((Question.appendCap 1 0 49).cut (wr.tape wr.drawn (Question.appendCap 1 0 49))) ?_
        refine Exists.intro (Builtin.zeroCells #[.int .i64 0, .int .i64 0, .int .i64 0, .int .i64 0, .int .i64 0, .int .i64 0, .int .i64 0, .int .i64 0, .int .i64 0, .int .i64 0, .int .i64 0, .int .i64 0, .int .i64 0, .int .i64 0, .int .i64 0, .int .i64 0] ((Question.appendCap 1 0 49).cut (wr.tape wr.drawn (Question.appendCap 1 0 49)) - 1)) ?_
        refine And.intro (by omega) (And.intro ?h1 (And.intro ?h2 (And.intro ?h3 ?h4)))
        case h1 => exact Cfg.alloc (Cfg.alloc (heap_setCell_same wr (N + 1 + 1 + 1) 0 _ _ _ hC) _) _
        case h2 => exact Cfg.alloc (Cfg.alloc (Cfg.setCell hZ (p := ⟨N + 1 + 1 + 1, 0, none⟩) _ (by simp <;> omega)) _) _
        case h3 => exact heap_alloc_at _ _ (by simp [hsz])
        case h4 => exact (((hB.setCell (by simp <;> omega) _).alloc (by simp [hsz] <;> omega) _).alloc (by simp [hsz] <;> omega) _).drew
    · have hne : k ≠ N := by omega
      go_wp2_with (first | ((with_reducible apply load_cfg); exact rfl; exact rfl; exact rfl; focus (assumption; done)) | ((with_reducible apply store_cfg); exact rfl; exact rfl; exact rfl; exact rfl; focus (assumption; done)))
      refine bodyPost_ret (results_cfg rfl _ _ rfl (setRow_heap wr N _ _ _ _ hZ) rfl) rfl ⟨k, c, N + 1 + 1, cs, rfl, ?_, ?_⟩
      · rw [Go.setRow_other wr N k _ hne]
        exact hK
      · rw [← HN.out]
        exact below_setRow hB (Nat.le_refl _) _
end Go.Proofs.Ytadilccdipcmnaa
