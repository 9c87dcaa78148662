/- Words for the seat's walks: an array of 128 bools by a function, its row in memory, a word's bits; plain lemmas. No condition. -/
import Derived.Test.YtadilccdipcmnaaProg
import Derived.WalkKit
import Derived.Below
import Derived.WalkSpells
import Derived.WalkLawsBesides
import Derived.Outline
import Derived.Deep.LoopGhost
import Derived.Deep.QuietTactic
import Derived.BigQuiet
import Derived.Laws.Rows
import Derived.KernelRfl
namespace Go.Proofs.Ytadilccdipcmnaa
open Go Go.RowKit

theorem hide {p : Prop} (h : p) : Hid p := h

/-- An array of 128 bools, by a function. -/
def bf (f : Nat → Bool) : Array Value := Array.ofFn (n := 128) fun i => Value.bool (f i.val)
/-- The bits of a number. -/
def bitF (n : Int) : Nat → Bool := n.toNat.testBit

theorem bf_size (f : Nat → Bool) : (bf f).size = 128 := by simp [bf]
theorem bf_get {f : Nat → Bool} {i : Nat} (h : i < 128) : (bf f)[i]? = some (.bool (f i)) := by simp [bf, h]
theorem bf_one (f : Nat → Bool) : (bf f).all (·.oneCell') = true := by
  rw [Array.all_eq_true_iff_forall_mem]
  intro v hv
  simp only [bf, Array.mem_ofFn] at hv
  obtain ⟨i, rfl⟩ := hv
  rfl
def upd (f : Nat → Bool) (i : Nat) (b : Bool) : Nat → Bool := fun j => if j = i then b else f j
theorem bf_set {f : Nat → Bool} {i : Nat} (b : Bool) : (bf f).setIfInBounds i (.bool b) = bf (upd f i b) := by
  apply Array.ext
  · simp [bf]
  · intro j h1 h2
    rw [Array.getElem_setIfInBounds (by simpa using h1)]
    simp only [bf, upd, Array.getElem_ofFn]
    by_cases h : i = j
    · simp [h]
    · simp [h, Ne.symm h]
theorem bf_congr {f g : Nat → Bool} (h : ∀ j, j < 128 → f j = g j) : bf f = bf g := by
  apply Array.ext
  · simp [bf]
  · intro j h1 h2
    have hj : j < 128 := by simpa [bf] using h1
    simp only [bf, Array.getElem_ofFn, h j hj]
theorem bf_zero : Try.zeroCells28 = bf (fun _ => false) := by kernel_rfl
theorem size28 : (Try.prog.info? 28).map (·.size) = some 128 := by kernel_rfl

/-- Block b is such an array. -/
def Row (w : World) (b : Nat) (f : Nat → Bool) : Prop := w.heap[b]? = some (.cells (bf f) 28 (0, 0))
theorem Row.cell {w : World} {b : Nat} {f : Nat → Bool} (h : Row w b f) {i : Nat} (hi : i < 128) : w.cell? ⟨b, i, none⟩ = some (.bool (f i)) := by
  rw [cell_of_row w b i _ _ _ h, bf_get hi]
theorem Row.free {w : World} {b : Nat} {f : Nat → Bool} (h : Row w b f) (i : Nat) : w.frozen? ⟨b, i, none⟩ = false := frozen_of_row w b i _ _ h
theorem Row.set {w : World} {b : Nat} {f : Nat → Bool} (h : Row w b f) (i : Nat) (v : Bool) : Row (w.setCell ⟨b, i, none⟩ (.bool v)) b (upd f i v) := by
  unfold Row
  rw [heap_setCell_same w b i _ _ _ h, bf_set]
theorem Row.congr {w : World} {b : Nat} {f g : Nat → Bool} (h : Row w b f) (e : ∀ j, j < 128 → f j = g j) : Row w b g := by
  unfold Row
  rw [← bf_congr e]
  exact h
theorem Row.lt {w : World} {b : Nat} {f : Nat → Bool} (h : Row w b f) : b < w.heap.size := lt_of_block h
theorem Row.below {w w' : World} {B b : Nat} {f : Nat → Bool} (h : Row w b f) (hb : Below B w w') (hlt : b < B) : Row w' b f := by
  unfold Row
  rw [hb.block b hlt]
  exact h
theorem Row.setRow {w : World} {b : Nat} {f g : Nat → Bool} (h : Row w b f) : Row (w.setRow b (bf g)) b g := setRow_heap w b _ _ _ _ h
theorem Row.setRow_other {w : World} {b c : Nat} {f : Nat → Bool} (h : Row w b f) (cs : Array Value) (hn : b ≠ c) : Row (w.setRow c cs) b f := by
  unfold Row
  rw [Go.setRow_other w c b cs hn]
  exact h
theorem Row.new (w : World) (f : Nat → Bool) : Row (w.alloc (.cells (bf f) 28)) w.heap.size f := heap_alloc_new w _
theorem Row.new' {w : World} (f : Nat → Bool) {n : Nat} (h : w.heap.size = n) : Row (w.alloc (.cells (bf f) 28)) n f := by
  subst h
  exact Row.new w f
theorem Row.zero' {w : World} {n : Nat} (h : w.heap.size = n) : Row (w.alloc (.cells Try.zeroCells28 28)) n (fun _ => false) := by
  rw [bf_zero]
  exact Row.new' _ h
theorem Row.setCell {w : World} {b : Nat} {f : Nat → Bool} (h : Row w b f) {p : Addr} (v : Value) (hn : b ≠ p.block) : Row (w.setCell p v) b f := by
  unfold Row
  rw [Below.heap_setCell w p v b hn]
  exact h
theorem Row.alloc {w : World} {b : Nat} {f : Nat → Bool} (h : Row w b f) (o : Obj) : Row (w.alloc o) b f := by
  unfold Row
  rw [Below.heap_alloc w o b h.lt]
  exact h
theorem below_setRow {B g : Nat} {w0 w : World} (hb : Below B w0 w) (hBg : B ≤ g) (cs : Array Value) : Below B w0 (w.setRow g cs) :=
  hb.trans ⟨rfl, rfl, rfl, by simp, fun k hk => Go.setRow_other w g k cs (by omega)⟩

theorem bcell {W w1 : World} (hb : Below W.heap.size W w1) : (∀ b o, b < W.heap.size → w1.cell? ⟨b, o, none⟩ = W.cell? ⟨b, o, none⟩) ∧ (∀ b o, b < W.heap.size → w1.frozen? ⟨b, o, none⟩ = W.frozen? ⟨b, o, none⟩) :=
  ⟨fun b o h => hb.cell (p := ⟨b, o, none⟩) h, fun b o h => hb.frozen (p := ⟨b, o, none⟩) h⟩

section
variable {ops : Array Oper} {rest : List Oper} {o : Oper} {a : Act} {w : World} {Q : Exit → Act → World → Prop}
/-- A whole array read out of its variable. -/
theorem load_row {f : Nat → Bool} {g : Nat} (hgd : o.guard = none) (x : Operand) (ho : o.op = .load 28 x) (hx : a.eval x = .pointer (some ⟨g, 0, none⟩)) (hg : Row w g f)
    (h : wpList Try.prog ops Q rest (a.put o.dst (.agg (bf f))) w) : wpList Try.prog ops Q (o :: rest) a w :=
  wpList_load_row hgd 28 x ho g hx 28 (bf f) (0, 0) _ hg Try.underlying28 rfl (by rw [bf_size]; exact size28) h
/-- A whole array stored into its variable. -/
theorem store_row {f f0 : Nat → Bool} {g : Nat} (hgd : o.guard = none) (x y : Operand) (ho : o.op = .store 28 x y) (hx : a.eval x = .pointer (some ⟨g, 0, none⟩)) (hy : a.eval y = .agg (bf f)) (hg : Row w g f0)
    (h : wpList Try.prog ops Q rest (a.put o.dst undef) (w.setRow g (bf f))) : wpList Try.prog ops Q (o :: rest) a w :=
  wpList_store_row hgd 28 x y ho g (bf f) hx hy 28 (bf f0) hg (by rw [bf_size]; exact size28) (by rw [bf_size, bf_size]) (bf_one f) h
/-- A result that is a whole array. -/
theorem results_row {fn : Func} {p : Tmp} {f : Nat → Bool} {g : Nat} (h : fn.results = #[.cell p 28]) (tmps : Array Value) (w : World) (hp : tmps.getD p undef = .pointer (some ⟨g, 0, none⟩)) (hg : Row w g f) :
    (results fn tmps).run Try.prog w = .ok (.agg (bf f)) w :=
  results_cell_row h tmps w g 28 (bf f) (0, 0) _ hp hg Try.underlying28 rfl (by rw [bf_size]; exact size28)
theorem run_row (w : World) (g : Nat) {f : Nat → Bool} (hg : Row w g f) : (loadVar 28 ⟨g, 0, none⟩).run Try.prog w = .ok (.agg (bf f)) w :=
  run_loadVar_row w g 28 28 (bf f) (0, 0) _ hg Try.underlying28 rfl (by rw [bf_size]; exact size28)
theorem results_row_tmp {fn : Func} {p t : Tmp} {f : Nat → Bool} {g : Nat} (h : fn.results = #[.cell p 28, .tmp t]) (tmps : Array Value) (w : World) (hp : tmps.getD p undef = .pointer (some ⟨g, 0, none⟩)) (hg : Row w g f) :
    (results fn tmps).run Try.prog w = .ok (.tuple #[.agg (bf f), tmps.getD t undef]) w := by
  have hp' : tmps[p]?.getD undef = .pointer (some ⟨g, 0, none⟩) := by simpa using hp
  simp [results, h, hp', asAddr, run_row w g hg]
theorem results_row_row {fn : Func} {p q : Tmp} {f f' : Nat → Bool} {g g' : Nat} (h : fn.results = #[.cell p 28, .cell q 28]) (tmps : Array Value) (w : World) (hp : tmps.getD p undef = .pointer (some ⟨g, 0, none⟩)) (hg : Row w g f)
    (hq : tmps.getD q undef = .pointer (some ⟨g', 0, none⟩)) (hg' : Row w g' f') :
    (results fn tmps).run Try.prog w = .ok (.tuple #[.agg (bf f), .agg (bf f')]) w := by
  have hp' : tmps[p]?.getD undef = .pointer (some ⟨g, 0, none⟩) := by simpa using hp
  have hq' : tmps[q]?.getD undef = .pointer (some ⟨g', 0, none⟩) := by simpa using hq
  simp [results, h, hp', hq', asAddr, run_row w g hg, run_row w g' hg']
end

theorem bit_at (b : Int) (hb : 0 ≤ b) (hb2 : b < 18446744073709551616) (k : Nat) : (bits .and .u64 (b / 2 ^ k) 1 == 1) = b.toNat.testBit k := by
  obtain ⟨n, rfl⟩ := Int.eq_ofNat_of_zero_le hb
  have e : ((n : Int) / 2 ^ k) = ((n / 2 ^ k : Nat) : Int) := by simp
  have hlt : n / 2 ^ k < 18446744073709551616 := Nat.lt_of_le_of_lt (Nat.div_le_self _ _) (by omega)
  rw [e]
  have h1 := u64_and_nat (n / 2 ^ k) 1 hlt (by decide)
  rw [show ((1 : Nat) : Int) = 1 from rfl] at h1
  rw [h1, nat_mask1, Int.toNat_natCast, Nat.testBit_eq_decide_div_mod_eq]
  by_cases h : n / 2 ^ k % 2 = 1
  · simp [h]
  · have : n / 2 ^ k % 2 = 0 := by omega
    simp [this]

end Go.Proofs.Ytadilccdipcmnaa
