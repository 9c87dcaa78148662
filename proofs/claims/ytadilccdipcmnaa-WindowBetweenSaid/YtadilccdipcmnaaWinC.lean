/- The windows in memory: what they hold; New, Ref, Len, and whether a tick may come. -/
import Derived.Test.YtadilccdipcmnaaWinA
import Derived.Test.YtadilccdipcmnaaWinB
namespace Go.Proofs.Ytadilccdipcmnaa
open Go Go.RowKit

/-- A trade: its tick, its price, its quantity. -/
abbrev Trd := Int × Int × Int
def okT (t : Trd) : Prop := (0 ≤ t.1 ∧ t.1 ≤ 1152921504606846976) ∧ (1 ≤ t.2.1 ∧ t.2.1 ≤ 1099511627776) ∧ (1 ≤ t.2.2 ∧ t.2.2 ≤ 4294967296)
def wSum : List Trd → Int
  | [] => 0
  | t :: l => t.2.1 * t.2.2 + wSum l
def qSum : List Trd → Int
  | [] => 0
  | t :: l => t.2.2 + qSum l
def pCell (t : Trd) : List Value := [.int .i64 t.1, .int .i64 t.2.2, .int .u64 (t.2.1 * t.2.2 / M64), .int .u64 (t.2.1 * t.2.2 % M64)]
def rCell (t : Trd) : List Value := [.int .i64 t.1, .int .i64 t.2.1, .int .i64 t.2.2]
def pCells (l : List Trd) : List Value := l.flatMap pCell
def rCells (l : List Trd) : List Value := l.flatMap rCell
theorem wSum_append (l m : List Trd) : wSum (l ++ m) = wSum l + wSum m := by
  induction l with
  | nil => simp [wSum]
  | cons t l ih => simp only [List.cons_append, wSum, ih]; omega
theorem qSum_append (l m : List Trd) : qSum (l ++ m) = qSum l + qSum m := by
  induction l with
  | nil => simp [qSum]
  | cons t l ih => simp only [List.cons_append, qSum, ih]; omega
theorem pq_bd {t : Trd} (h : okT t) : 1 ≤ t.2.1 * t.2.2 ∧ t.2.1 * t.2.2 ≤ 4722366482869645213696 ∧ t.2.1 * t.2.2 ≤ 1099511627776 * t.2.2 ∧ t.2.2 ≤ t.2.1 * t.2.2 := by
  obtain ⟨-, ⟨a, b⟩, ⟨c, d⟩⟩ := h
  have e1 := Int.mul_le_mul_of_nonneg_right b (show 0 ≤ t.2.2 by omega)
  have e2 := Int.mul_le_mul_of_nonneg_right a (show 0 ≤ t.2.2 by omega)
  omega
/-- The sums of a list of trades. -/
theorem sums_bd {l : List Trd} (h : ∀ t ∈ l, okT t) : 0 ≤ qSum l ∧ qSum l ≤ 4294967296 * l.length ∧ (l.length : Int) ≤ qSum l ∧ 0 ≤ wSum l ∧ wSum l ≤ 1099511627776 * qSum l ∧ qSum l ≤ wSum l := by
  induction l with
  | nil => simp [wSum, qSum]
  | cons t l ih =>
    have h1 := h t (by simp)
    have h2 := ih (fun x hx => h x (by simp [hx]))
    have h3 := pq_bd h1
    obtain ⟨-, -, ⟨c, d⟩⟩ := h1
    simp only [wSum, qSum, List.length_cons]
    omega

/-- Block p is a window of the program. -/
def PBlk (w : World) (p : Nat) (a b c d sl x y z : Value) : Prop := w.heap[p]? = some (.cells #[a, b, c, d, sl, x, y, z] 135 (0, 0))
/-- Block q is a window of the reference. -/
def RBlk (w : World) (q : Nat) (a b c d sl : Value) : Prop := w.heap[q]? = some (.cells #[a, b, c, d, sl] 102 (0, 0))
section
variable {S : Nat → Prop} {w w' : World} {p q : Nat} {a b c d sl x y z v : Value}
theorem PBlk.lt (h : PBlk w p a b c d sl x y z) : p < w.heap.size := lt_of_block h
theorem RBlk.lt (h : RBlk w p a b c d sl) : p < w.heap.size := lt_of_block h
theorem PBlk.keep (h : PBlk w p a b c d sl x y z) (hk : Keeps S w w') (hn : ¬ S p) : PBlk w' p a b c d sl x y z := hk.heap h hn
theorem RBlk.keep (h : RBlk w p a b c d sl) (hk : Keeps S w w') (hn : ¬ S p) : RBlk w' p a b c d sl := hk.heap h hn
theorem PBlk.below {B : Nat} (h : PBlk w p a b c d sl x y z) (hb : Below B w w') (hlt : p < B) : PBlk w' p a b c d sl x y z := by
  unfold PBlk
  rw [hb.block p hlt]
  exact h
theorem RBlk.below {B : Nat} (h : RBlk w p a b c d sl) (hb : Below B w w') (hlt : p < B) : RBlk w' p a b c d sl := by
  unfold RBlk
  rw [hb.block p hlt]
  exact h
theorem PBlk.cell (h : PBlk w p a b c d sl x y z) (i : Nat) {v : Value} (hi : (#[a, b, c, d, sl, x, y, z] : Array Value)[i]? = some v) : w.cell? ⟨p, i, none⟩ = some v := by
  rw [cell_of_row w p i _ _ _ h]
  exact hi
theorem RBlk.cell (h : RBlk w p a b c d sl) (i : Nat) {v : Value} (hi : (#[a, b, c, d, sl] : Array Value)[i]? = some v) : w.cell? ⟨p, i, none⟩ = some v := by
  rw [cell_of_row w p i _ _ _ h]
  exact hi
theorem PBlk.free (h : PBlk w p a b c d sl x y z) (i : Nat) : w.frozen? ⟨p, i, none⟩ = false := frozen_of_row w p i _ _ h
theorem RBlk.free (h : RBlk w p a b c d sl) (i : Nat) : w.frozen? ⟨p, i, none⟩ = false := frozen_of_row w p i _ _ h
theorem PBlk.alloc (h : PBlk w p a b c d sl x y z) (o : Obj) : PBlk (w.alloc o) p a b c d sl x y z := by
  unfold PBlk
  rw [Below.heap_alloc w o p h.lt]
  exact h
theorem RBlk.alloc (h : RBlk w p a b c d sl) (o : Obj) : RBlk (w.alloc o) p a b c d sl := by
  unfold RBlk
  rw [Below.heap_alloc w o p h.lt]
  exact h
theorem PBlk.setRow (h : PBlk w p a b c d sl x y z) (k : Nat) (cs : Array Value) (hn : p ≠ k) : PBlk (w.setRow k cs) p a b c d sl x y z := by
  unfold PBlk
  rw [Go.setRow_other w k p cs hn]
  exact h
theorem RBlk.setRow (h : RBlk w p a b c d sl) (k : Nat) (cs : Array Value) (hn : p ≠ k) : RBlk (w.setRow k cs) p a b c d sl := by
  unfold RBlk
  rw [Go.setRow_other w k p cs hn]
  exact h
theorem PBlk.set0 (h : PBlk w p a b c d sl x y z) (v : Value) : PBlk (w.setCell ⟨p, 0, none⟩ v) p v b c d sl x y z := heap_setCell_same w p 0 _ _ v h
theorem PBlk.set1 (h : PBlk w p a b c d sl x y z) (v : Value) : PBlk (w.setCell ⟨p, 1, none⟩ v) p a v c d sl x y z := heap_setCell_same w p 1 _ _ v h
theorem PBlk.set2 (h : PBlk w p a b c d sl x y z) (v : Value) : PBlk (w.setCell ⟨p, 2, none⟩ v) p a b v d sl x y z := heap_setCell_same w p 2 _ _ v h
theorem PBlk.set3 (h : PBlk w p a b c d sl x y z) (v : Value) : PBlk (w.setCell ⟨p, 3, none⟩ v) p a b c v sl x y z := heap_setCell_same w p 3 _ _ v h
theorem PBlk.set4 (h : PBlk w p a b c d sl x y z) (v : Value) : PBlk (w.setCell ⟨p, 4, none⟩ v) p a b c d v x y z := heap_setCell_same w p 4 _ _ v h
theorem PBlk.set5 (h : PBlk w p a b c d sl x y z) (v : Value) : PBlk (w.setCell ⟨p, 5, none⟩ v) p a b c d sl v y z := heap_setCell_same w p 5 _ _ v h
theorem PBlk.set6 (h : PBlk w p a b c d sl x y z) (v : Value) : PBlk (w.setCell ⟨p, 6, none⟩ v) p a b c d sl x v z := heap_setCell_same w p 6 _ _ v h
theorem PBlk.set7 (h : PBlk w p a b c d sl x y z) (v : Value) : PBlk (w.setCell ⟨p, 7, none⟩ v) p a b c d sl x y v := heap_setCell_same w p 7 _ _ v h
theorem RBlk.set0 (h : RBlk w p a b c d sl) (v : Value) : RBlk (w.setCell ⟨p, 0, none⟩ v) p v b c d sl := heap_setCell_same w p 0 _ _ v h
theorem RBlk.set1 (h : RBlk w p a b c d sl) (v : Value) : RBlk (w.setCell ⟨p, 1, none⟩ v) p a v c d sl := heap_setCell_same w p 1 _ _ v h
theorem RBlk.set2 (h : RBlk w p a b c d sl) (v : Value) : RBlk (w.setCell ⟨p, 2, none⟩ v) p a b v d sl := heap_setCell_same w p 2 _ _ v h
theorem RBlk.set3 (h : RBlk w p a b c d sl) (v : Value) : RBlk (w.setCell ⟨p, 3, none⟩ v) p a b c v sl := heap_setCell_same w p 3 _ _ v h
theorem RBlk.set4 (h : RBlk w p a b c d sl) (v : Value) : RBlk (w.setCell ⟨p, 4, none⟩ v) p a b c d v := heap_setCell_same w p 4 _ _ v h
end
/-- The program's window at block p, its trades (in block k) L. -/
def PWin (w : World) (p k : Nat) (sp g r la : Int) (L : List Trd) : Prop :=
  ∃ sl, PBlk w p (.int .i64 sp) (.int .i64 g) (.int .i64 r) (.int .i64 la) sl (.int .u64 (wSum L / M64)) (.int .u64 (wSum L % M64)) (.int .i64 (qSum L)) ∧ Seg w 138 4 sl k L.length (pCells L) ∧ (sl = .slice none 0 0 → k = p)
/-- The reference's window at block q, its trades (in block k) L. -/
def RWin (w : World) (q k : Nat) (sp g r la : Int) (L : List Trd) : Prop :=
  ∃ sl, RBlk w q (.int .i64 sp) (.int .i64 g) (.int .i64 r) (.int .i64 la) sl ∧ Seg w 147 3 sl k L.length (rCells L) ∧ (sl = .slice none 0 0 → k = q)
section
variable {S : Nat → Prop} {w w' : World} {p k : Nat} {sp g r la : Int} {L : List Trd}
theorem PWin.keep (h : PWin w p k sp g r la L) (hk : Keeps S w w') (hp : ¬ S p) (hn : ¬ S k) : PWin w' p k sp g r la L := by
  obtain ⟨sl, h1, h2, h3⟩ := h
  exact ⟨sl, h1.keep hk hp, h2.keep hk hn, h3⟩
theorem RWin.keep (h : RWin w p k sp g r la L) (hk : Keeps S w w') (hp : ¬ S p) (hn : ¬ S k) : RWin w' p k sp g r la L := by
  obtain ⟨sl, h1, h2, h3⟩ := h
  exact ⟨sl, h1.keep hk hp, h2.keep hk hn, h3⟩
theorem PWin.lt (h : PWin w p k sp g r la L) : p < w.heap.size ∧ k < w.heap.size := by
  obtain ⟨sl, h1, h2, h3⟩ := h
  refine ⟨h1.lt, ?_⟩
  rcases h2.lt with h | h
  · rw [h3 h]
    exact h1.lt
  · exact h
theorem RWin.lt (h : RWin w p k sp g r la L) : p < w.heap.size ∧ k < w.heap.size := by
  obtain ⟨sl, h1, h2, h3⟩ := h
  refine ⟨h1.lt, ?_⟩
  rcases h2.lt with h | h
  · rw [h3 h]
    exact h1.lt
  · exact h
end
def comesF (la tick : Int) : Bool := decide (la ≤ tick ∧ 0 ≤ tick ∧ tick ≤ 1152921504606846976)
set_option maxRecDepth 100000 in
set_option maxHeartbeats 4000000 in
theorem comes_any (p : Nat) (la tick : Int) (w : World) (h : w.cell? ⟨p, 3, none⟩ = some (.int .i64 la)) :
    Calls Try.prog 127 #[.pointer (some ⟨p, 0, none⟩), .int .i64 tick] w fun e w' => e = .returned (.bool (comesF la tick)) ∧ w' = w := by
  by_cases h1 : la ≤ tick
  · by_cases h2 : 0 ≤ tick
    · by_cases h3 : tick ≤ 1152921504606846976
      · rw [show comesF la tick = true from decide_eq_true ⟨h1, h2, h3⟩]
        go_enter Try.func127, Try.ntmps127
        go_wp2
        go_ret
        exact ⟨rfl, rfl⟩
      · rw [show comesF la tick = false from decide_eq_false (by omega)]
        go_enter Try.func127, Try.ntmps127
        go_wp2
        go_ret
        exact ⟨rfl, rfl⟩
    · rw [show comesF la tick = false from decide_eq_false (by omega)]
      go_enter Try.func127, Try.ntmps127
      go_wp2
      go_ret
      exact ⟨rfl, rfl⟩
  · rw [show comesF la tick = false from decide_eq_false (by omega)]
    go_enter Try.func127, Try.ntmps127
    go_wp2
    all_goals go_ret
    all_goals exact ⟨rfl, rfl⟩
set_option maxRecDepth 100000 in
set_option maxHeartbeats 4000000 in
theorem ticks_any (p : Nat) (la tick : Int) (w : World) (h : w.cell? ⟨p, 3, none⟩ = some (.int .i64 la)) :
    Calls Try.prog 137 #[.pointer (some ⟨p, 0, none⟩), .int .i64 tick] w fun e w' => e = .returned (.bool (comesF la tick)) ∧ w' = w := by
  by_cases h1 : la ≤ tick
  · by_cases h2 : 0 ≤ tick
    · by_cases h3 : tick ≤ 1152921504606846976
      · rw [show comesF la tick = true from decide_eq_true ⟨h1, h2, h3⟩]
        go_enter Try.func137, Try.ntmps137
        go_wp2
        go_ret
        exact ⟨rfl, rfl⟩
      · rw [show comesF la tick = false from decide_eq_false (by omega)]
        go_enter Try.func137, Try.ntmps137
        go_wp2
        go_ret
        exact ⟨rfl, rfl⟩
    · rw [show comesF la tick = false from decide_eq_false (by omega)]
      go_enter Try.func137, Try.ntmps137
      go_wp2
      go_ret
      exact ⟨rfl, rfl⟩
  · rw [show comesF la tick = false from decide_eq_false (by omega)]
    go_enter Try.func137, Try.ntmps137
    go_wp2
    all_goals go_ret
    all_goals exact ⟨rfl, rfl⟩
def newP (sp g r : Int) : Prop := (1 ≤ sp ∧ sp ≤ 1099511627776) ∧ g ≤ 1099511627776 ∧ pricedF r g = true
instance (sp g r : Int) : Decidable (newP sp g r) := by
  unfold newP
  infer_instance
theorem priced_grid {r g : Int} (h : pricedF r g = true) : 1 ≤ g ∧ 1 ≤ r ∧ r ≤ 1099511627776 ∧ r % g = 0 := by
  unfold pricedF priceF at h
  by_cases h1 : g < 1
  · rw [if_pos h1] at h
    cases h
  · rw [if_neg h1] at h
    by_cases h2 : r < 1 ∨ 1099511627776 < r
    · rw [if_pos h2] at h
      cases h
    · rw [if_neg h2] at h
      by_cases h3 : r % g = 0
      · omega
      · rw [if_neg h3] at h
        cases h
theorem PWin.new (w : World) (sp g r : Int) : PWin (w.alloc (.cells #[.int .i64 sp, .int .i64 g, .int .i64 r, .int .i64 0, .slice none 0 0, .int .u64 0, .int .u64 0, .int .i64 0] 135)) w.heap.size w.heap.size sp g r 0 [] :=
  ⟨.slice none 0 0, heap_alloc_new w _, Seg.nil _ _ _ _, fun _ => rfl⟩
theorem RWin.new (w : World) (sp g r : Int) : RWin (w.alloc (.cells #[.int .i64 sp, .int .i64 g, .int .i64 r, .int .i64 0, .slice none 0 0] 102)) w.heap.size w.heap.size sp g r 0 [] :=
  ⟨.slice none 0 0, heap_alloc_new w _, Seg.nil _ _ _ _, fun _ => rfl⟩
set_option maxRecDepth 100000 in
set_option maxHeartbeats 4000000 in
theorem new_any (sp g r : Int) (w : World) (hg : okI g) (hr : okI r) :
    Calls Try.prog 88 #[.int .i64 sp, .int .i64 g, .int .i64 r] w fun e w' => ((newP sp g r ∧ e = .returned (.tuple #[.pointer (some ⟨w.heap.size, 0, none⟩), .int .i64 0]) ∧ PWin w' w.heap.size w.heap.size sp g r 0 []) ∨ (¬ newP sp g r ∧ e = .returned (.tuple #[.pointer none, .int .i64 9]))) ∧ Below w.heap.size w w' := by
  have Hg := hide hg
  have Hr := hide hr
  clear hg hr
  by_cases c1 : sp < 1
  · have HN : Hid (¬ newP sp g r) := hide (fun h => by have := h.1; have := h.2.1; omega)
    go_enter Try.func88, Try.ntmps88
    go_wp2
    go_ret2
    exact ⟨.inr ⟨HN.out, rfl⟩, Below.refl _ _⟩
  by_cases c2 : 1099511627776 < sp
  · have HN : Hid (¬ newP sp g r) := hide (fun h => by have := h.1; have := h.2.1; omega)
    go_enter Try.func88, Try.ntmps88
    go_wp2
    go_ret2
    exact ⟨.inr ⟨HN.out, rfl⟩, Below.refl _ _⟩
  by_cases c3 : 1099511627776 < g
  · have HN : Hid (¬ newP sp g r) := hide (fun h => by have := h.1; have := h.2.1; omega)
    go_enter Try.func88, Try.ntmps88
    go_wp2
    go_ret2
    exact ⟨.inr ⟨HN.out, rfl⟩, Below.refl _ _⟩
  cases h : pricedF r g
  · have HN : Hid (¬ newP sp g r) := hide (fun n => by have := n.2.2; rw [h] at this; cases this)
    have HP := hide h
    clear h
    go_enter Try.func88, Try.ntmps88
    go_wp2_with (fail)
    (with_reducible refine (priced_any r g _ Hr.out Hg.out).mono ?_)
    rintro e w1 ⟨rfl, rfl⟩
    rw [HP.out]
    dsimp only
    go_wp2
    go_ret2
    exact ⟨.inr ⟨HN.out, rfl⟩, Below.refl _ _⟩
  · have HN : Hid (newP sp g r) := hide ⟨by omega, by omega, h⟩
    have HP := hide h
    clear h
    go_enter Try.func88, Try.ntmps88
    go_wp2_with (fail)
    (with_reducible refine (priced_any r g _ Hr.out Hg.out).mono ?_)
    rintro e w1 ⟨rfl, rfl⟩
    rw [HP.out]
    dsimp only
    go_wp2
    go_ret2
    exact ⟨.inl ⟨HN.out, rfl, PWin.new _ _ _ _⟩, (Below.refl _ _).alloc (Nat.le_refl _) _⟩
set_option maxRecDepth 100000 in
set_option maxHeartbeats 4000000 in
theorem refnew_any (sp g r : Int) (w : World) (hg : okI g) (hr : okI r) :
    Calls Try.prog 93 #[.int .i64 sp, .int .i64 g, .int .i64 r] w fun e w' => ((newP sp g r ∧ e = .returned (.tuple #[.pointer (some ⟨w.heap.size, 0, none⟩), .int .i64 0]) ∧ RWin w' w.heap.size w.heap.size sp g r 0 []) ∨ (¬ newP sp g r ∧ e = .returned (.tuple #[.pointer none, .int .i64 9]))) ∧ Below w.heap.size w w' := by
  have Hg := hide hg
  have Hr := hide hr
  clear hg hr
  by_cases c1 : sp < 1
  · have HN : Hid (¬ newP sp g r) := hide (fun h => by have := h.1; have := h.2.1; omega)
    go_enter Try.func93, Try.ntmps93
    go_wp2
    go_ret2
    exact ⟨.inr ⟨HN.out, rfl⟩, Below.refl _ _⟩
  by_cases c2 : 1099511627776 < sp
  · have HN : Hid (¬ newP sp g r) := hide (fun h => by have := h.1; have := h.2.1; omega)
    go_enter Try.func93, Try.ntmps93
    go_wp2
    go_ret2
    exact ⟨.inr ⟨HN.out, rfl⟩, Below.refl _ _⟩
  by_cases c3 : g < 1
  · have HN : Hid (¬ newP sp g r) := hide (fun h => by have := priced_grid h.2.2; omega)
    go_enter Try.func93, Try.ntmps93
    go_wp2
    go_ret2
    exact ⟨.inr ⟨HN.out, rfl⟩, Below.refl _ _⟩
  by_cases c4 : 1099511627776 < g
  · have HN : Hid (¬ newP sp g r) := hide (fun h => by have := h.1; have := h.2.1; omega)
    go_enter Try.func93, Try.ntmps93
    go_wp2
    go_ret2
    exact ⟨.inr ⟨HN.out, rfl⟩, Below.refl _ _⟩
  cases h : pricedF r g
  · have HN : Hid (¬ newP sp g r) := hide (fun n => by have := n.2.2; rw [h] at this; cases this)
    have HP := hide h
    clear h
    go_enter Try.func93, Try.ntmps93
    go_wp2_with (fail)
    (with_reducible refine (refpriced_any r g _ Hr.out Hg.out).mono ?_)
    rintro e w1 ⟨rfl, rfl⟩
    rw [HP.out]
    dsimp only
    go_wp2
    go_ret2
    exact ⟨.inr ⟨HN.out, rfl⟩, Below.refl _ _⟩
  · have HN : Hid (newP sp g r) := hide ⟨by omega, by omega, h⟩
    have HP := hide h
    clear h
    go_enter Try.func93, Try.ntmps93
    go_wp2_with (fail)
    (with_reducible refine (refpriced_any r g _ Hr.out Hg.out).mono ?_)
    rintro e w1 ⟨rfl, rfl⟩
    rw [HP.out]
    dsimp only
    go_wp2
    go_ret2
    exact ⟨.inl ⟨HN.out, rfl, RWin.new _ _ _ _⟩, (Below.refl _ _).alloc (Nat.le_refl _) _⟩
set_option maxRecDepth 100000 in
set_option maxHeartbeats 4000000 in
theorem ref_any (p k : Nat) (sp g r la : Int) (L : List Trd) (w : World) (h : PWin w p k sp g r la L) :
    Calls Try.prog 95 #[.pointer (some ⟨p, 0, none⟩)] w fun e w' => e = .returned (.int .i64 r) ∧ w' = w := by
  obtain ⟨sl, h1, -, -⟩ := h
  have c2 := h1.cell 2 rfl
  clear h1
  go_enter Try.func95, Try.ntmps95
  go_wp2
  go_ret
  exact ⟨rfl, rfl⟩
set_option maxRecDepth 100000 in
set_option maxHeartbeats 4000000 in
theorem len_win (p k : Nat) (sp g r la : Int) (L : List Trd) (w : World) (h : PWin w p k sp g r la L) :
    Calls Try.prog 96 #[.pointer (some ⟨p, 0, none⟩)] w fun e w' => e = .returned (.int .i64 (L.length : Int)) ∧ w' = w := by
  obtain ⟨sl, h1, h2, -⟩ := h
  obtain ⟨ad, cap, rfl⟩ := h2.len
  have c4 := h1.cell 4 rfl
  clear h1 h2
  go_enter Try.func96, Try.ntmps96
  go_wp2
  go_ret
  exact ⟨rfl, rfl⟩
set_option maxRecDepth 100000 in
set_option maxHeartbeats 4000000 in
theorem ref_nil (w : World) :
    Calls Try.prog 95 #[.pointer none] w fun e w' => e = .returned (.int .i64 0) ∧ w' = w := by
  go_enter Try.func95, Try.ntmps95
  go_wp2
  go_ret
  exact ⟨rfl, rfl⟩
set_option maxRecDepth 100000 in
set_option maxHeartbeats 4000000 in
theorem len_nil (w : World) :
    Calls Try.prog 96 #[.pointer none] w fun e w' => e = .returned (.int .i64 0) ∧ w' = w := by
  go_enter Try.func96, Try.ntmps96
  go_wp2
  go_ret
  exact ⟨rfl, rfl⟩
set_option maxRecDepth 100000 in
set_option maxHeartbeats 4000000 in
theorem add_nil (a b c : Int) (w : World) :
    Calls Try.prog 89 #[.pointer none, .int .i64 a, .int .i64 b, .int .i64 c] w fun e w' => e = .returned (.int .i64 1) ∧ w' = w := by
  go_enter Try.func89, Try.ntmps89
  go_wp2
  go_ret
  exact ⟨rfl, rfl⟩
set_option maxRecDepth 100000 in
set_option maxHeartbeats 4000000 in
theorem mean_nil (a : Int) (w : World) :
    Calls Try.prog 90 #[.pointer none, .int .i64 a] w fun e w' => e = .returned (.tuple #[.int .i64 0, .bool false]) ∧ w' = w := by
  go_enter Try.func90, Try.ntmps90
  go_wp2
  go_ret2
  exact ⟨rfl, rfl⟩
set_option maxRecDepth 100000 in
set_option maxHeartbeats 4000000 in
theorem reset_nil (a : Int) (w : World) :
    Calls Try.prog 98 #[.pointer none, .int .i64 a] w fun e w' => e = .returned (.int .i64 1) ∧ w' = w := by
  go_enter Try.func98, Try.ntmps98
  go_wp2
  go_ret
  exact ⟨rfl, rfl⟩
set_option maxRecDepth 100000 in
set_option maxHeartbeats 4000000 in
theorem roll_nil (a b : Int) (w : World) :
    Calls Try.prog 97 #[.pointer none, .int .i64 a, .int .i64 b] w fun e w' => e = .returned (.tuple #[.int .i64 0, .bool false]) ∧ w' = w := by
  go_enter Try.func97, Try.ntmps97
  go_wp2_with (fail)
  (with_reducible refine (mean_nil a _).mono ?_)
  rintro e w1 ⟨rfl, rfl⟩
  dsimp only
  go_wp2_with (fail)
  (with_reducible refine (ref_nil _).mono ?_)
  rintro e w1 ⟨rfl, rfl⟩
  dsimp only
  go_wp2
  go_ret2
  exact ⟨rfl, rfl⟩
end Go.Proofs.Ytadilccdipcmnaa
