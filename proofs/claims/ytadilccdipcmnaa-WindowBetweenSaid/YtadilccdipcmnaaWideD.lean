/- strings.Builder's WriteByte at a builder that the call made itself, and the digits' closure of the program's Text. Conditions: the builder is the call's own; fewer than 2^47 bytes. -/
import Derived.Test.YtadilccdipcmnaaShelf
import Derived.Test.YtadilccdipcmnaaWideC
import Derived.Test.YtadilccdipcmnaaRefE
namespace Go.Proofs.Ytadilccdipcmnaa
open Go Go.RowKit

theorem size111 : (Try.prog.info? 111).map (·.size) = some 2 := by kernel_rfl
theorem lies111 : liesAt Try.prog Try.prog.depth 111 (2 / Try.prog.cellsOf 111) 0 111 1 = true := by kernel_rfl
theorem info5 : (Try.prog.info? 5).map (fun i => (i.zero, i.size, i.bytes)) = some (some (.int .u8 0), 1, 1) := by kernel_rfl
set_option maxHeartbeats 1000000 in
set_option maxRecDepth 100000 in
theorem copy_used (b : Nat) (w : World) (h0 : w.cell? ⟨b, 0, none⟩ = some (.pointer (some ⟨b, 0, none⟩))) :
    Calls Try.prog 134 #[.pointer (some ⟨b, 0, none⟩)] w fun e w' => e = .returned (.tuple #[]) ∧ w' = w := by
  obtain ⟨j, hj, _⟩ := Option.map_eq_some_iff.1 size111
  go_enter Try.func134, Try.ntmps134
  go_wp2
  rw [Lib.run_neq_ptr_same w _ Try.underlying109 hj]
  go_wp2
  go_end0
  exact ⟨rfl, rfl⟩
set_option maxHeartbeats 1000000 in
set_option maxRecDepth 100000 in
theorem copy_fresh (b : Nat) (w : World) (h0 : w.cell? ⟨b, 0, none⟩ = some (.pointer none)) (hsh : w.shape? b = some (111, 2)) (hfz : w.frozen? ⟨b, 0, none⟩ = false) :
    Calls Try.prog 134 #[.pointer (some ⟨b, 0, none⟩)] w fun e w' => e = .returned (.tuple #[]) ∧ w' = w.setCell ⟨b, 0, none⟩ (.pointer (some ⟨b, 0, none⟩)) := by
  obtain ⟨j, hj, hjs⟩ := Option.map_eq_some_iff.1 size111
  go_enter Try.func134, Try.ntmps134
  go_wp2
  rw [Lib.run_to_unsafe w ⟨b, 0, none⟩ Try.underlying109 Try.underlying148 hj (by rw [hjs]; decide) hsh (Nat.zero_lt_succ 1)]
  simp only [Result.andThen]
  rw [Oper.upon_value]
  go_wp2
  rw [run_callFunc_extern Try.func138 (by kernel_rfl) (by kernel_rfl) (by kernel_rfl) (e := Extern.AbiNoEscape.same) (by kernel_rfl)]
  rw [Lib.run_noEscape]
  simp only [Result.andThen]
  rw [Oper.upon_value]
  go_wp2
  rw [Lib.run_from_unsafe w ⟨b, 0, none⟩ Try.underlying148 Try.underlying109 hj hsh lies111]
  simp only [Result.andThen]
  rw [Oper.upon_value]
  go_wp2
  go_end0
  exact ⟨rfl, rfl⟩
theorem copy_any (B b : Nat) (bs : List Value) (w : World) (h : Lib.IsBuilder 111 5 B b bs w) :
    Calls Try.prog 134 #[.pointer (some ⟨b, 0, none⟩)] w fun e w' => e = .returned (.tuple #[]) ∧ Lib.BuilderAt 111 5 B b (.pointer (some ⟨b, 0, none⟩)) bs w' ∧ Below B w w' := by
  rcases h with h | h
  · refine (copy_fresh b w h.cell0 h.shape h.frozen0).mono ?_
    rintro e w' ⟨rfl, rfl⟩
    exact ⟨rfl, h.used _, (Below.refl B w).setCell (p := ⟨b, 0, none⟩) h.1 _⟩
  · refine (copy_used b w h.cell0).mono ?_
    rintro e w' ⟨rfl, rfl⟩
    exact ⟨rfl, h, Below.refl B _⟩
/-- A cell that has just been laid. -/
theorem one_new (w : World) (u : Value) (t : TypeId) : ∀ j v, [u][j]? = some v → (w.alloc (.cells #[u] t)).cell? ((⟨w.heap.size, 0, none⟩ : Addr).add j) = some v := by
  intro j v hj
  match j, hj with
  | 0, hj =>
    simp at hj
    subst hj
    simp [Addr.add]
set_option maxHeartbeats 1000000 in
set_option maxRecDepth 100000 in
theorem writebyte_any (B b : Nat) (bs : List Value) (c : Int) (w : World) (h : Lib.IsBuilder 111 5 B b bs w) (hlen : bs.length + 1 ≤ 140737488355328) (hBw : B ≤ w.heap.size) :
    Calls Try.prog 101 #[.pointer (some ⟨b, 0, none⟩), .int .u8 c] w fun e w' => e = .returned .nilIface ∧ Lib.IsBuilder 111 5 B b (bs ++ [.int .u8 c]) w' ∧ Below B w w' := by
  obtain ⟨i0, hi, hz0, hz1, hz2⟩ := info_parts info5
  go_enter Try.func101, Try.ntmps101
  go_wp2_with (go_at_call 134; refine (copy_any B b bs _ h).mono ?_)
  rintro e w1 ⟨rfl, h1, hb1⟩
  obtain ⟨hB, v, hbk, hown, hne⟩ := h1
  have hlt : b < w1.heap.size := lt_of_block hbk
  have c0 : w1.cell? ⟨b, 0, none⟩ = some (.pointer (some ⟨b, 0, none⟩)) := by rw [cell_of_row w1 b 0 _ _ _ hbk]; rfl
  have c1 : w1.cell? ⟨b, 1, none⟩ = some v := by rw [cell_of_row w1 b 1 _ _ _ hbk]; rfl
  have hs1 := hb1.size
  go_wp2_with (at_builtin; refine wpList_append_own _ rfl _ _ 107 rfl B 5 i0 (.int .u8 0) 1 1 Try.underlying107 hi hz0 hz1 hz2 rfl (by decide) _ _ _ rfl (hown.alloc _) ⟨w1.heap.size, 0, none⟩ 1 1 [.int .u8 c] rfl rfl (one_new _ _ _) (by intro u hu; simp at hu; subst hu; rfl) (by unfold maxLen; omega) (by omega) (by simp <;> omega) ?_)
  intro v' w2 hown' hgrow _
  have hb2 : w2.heap[b]? = some (.cells #[.pointer (some ⟨b, 0, none⟩), v] 111 (0, 0)) := by
    rw [hgrow.block b (by simp <;> omega) (fun e => hne e.symm), Below.heap_alloc w1 _ b hlt]
    exact hbk
  have d0 : w2.cell? ⟨b, 0, none⟩ = some (.pointer (some ⟨b, 0, none⟩)) := by rw [cell_of_row w2 b 0 _ _ _ hb2]; rfl
  have d1 : w2.cell? ⟨b, 1, none⟩ = some v := by rw [cell_of_row w2 b 1 _ _ _ hb2]; rfl
  have f1 : w2.frozen? ⟨b, 1, none⟩ = false := frozen_of_row w2 b 1 _ _ hb2
  obtain ⟨g, cap, rfl⟩ : ∃ g cap, v' = .slice (some ⟨g, 0, none⟩) (bs.length + 1) cap := by
    rcases hown'.2 with ⟨_, h0⟩ | ⟨g, cap, cur, hv, _⟩
    · omega
    · exact ⟨g, cap, hv⟩
  go_wp2
  go_ret
  refine ⟨rfl, .inr ?_, ?_⟩
  · exact Lib.BuilderAt.put (T := 111) (e := 5) hB hb2 (bs' := bs ++ [.int .u8 c]) (by simpa using hown') (by decide)
  · exact ((hb1.alloc (by omega) _).grown hgrow (by simp <;> omega) (fun k hk => (hown.lt k hk).1)).setCell (p := ⟨b, 1, none⟩) hB _

/-! The digits' closure: what it captured is a variable that holds a slice of the call's own -/
/-- Block g is a variable that holds a slice; the slice owns the bytes bs, from block B on, another than g. -/
def Holds (B g : Nat) (bs : List Value) (w : World) : Prop := g ≤ B ∧ ∃ v, w.heap[g]? = some (.cells #[v] 107 (0, 0)) ∧ w.ownsRow B 5 1 v bs.length bs ∧ v.ownBlock ≠ some g
theorem owns_ne {B g : Nat} {v x : Value} {n : Nat} {bs : List Value} {w : World} (h : w.ownsRow B 5 1 v n bs) (hg : w.heap[g]? = some (.cells #[x] 107 (0, 0))) : v.ownBlock ≠ some g := by
  rcases h.2 with ⟨rfl, _⟩ | ⟨k, cap, cur, rfl, _, hk, _⟩
  · intro h; cases h
  · intro e
    simp only [Value.ownBlock, Option.some.injEq] at e
    subst e
    rw [hk] at hg
    injection hg with hg
    injection hg with _ h2 _
    cases h2
theorem Holds.lt {B g : Nat} {bs : List Value} {w : World} (h : Holds B g bs w) : g < w.heap.size := by
  obtain ⟨_, v, h2, _⟩ := h
  exact lt_of_block h2
theorem owns_two {B k : Nat} {v x y : Value} {n : Nat} {bs : List Value} {w : World} (h : w.ownsRow B 5 1 v n bs) (hg : Two w k x y) : v.ownBlock ≠ some k := by
  rcases h.2 with ⟨rfl, _⟩ | ⟨q, cap, cur, rfl, _, hk, _⟩
  · intro h; cases h
  · intro e
    simp only [Value.ownBlock, Option.some.injEq] at e
    subst e
    unfold Two at hg
    rw [hk] at hg
    injection hg with hg
    injection hg with _ h2 _
    cases h2
theorem Holds.below {B g : Nat} {bs : List Value} {w w' : World} (h : Holds B g bs w) (hb : Below w.heap.size w w') : Holds B g bs w' := by
  obtain ⟨h1, v, h2, h3, h4⟩ := h
  refine ⟨h1, v, by rw [hb.block g (lt_of_block h2)]; exact h2, ⟨h3.1, ?_⟩, h4⟩
  rcases h3.2 with h | ⟨k, cap, cur, e, hB, hk, r⟩
  · exact .inl h
  · exact .inr ⟨k, cap, cur, e, hB, by rw [hb.block k (lt_of_block hk)]; exact hk, r⟩
set_option maxHeartbeats 1000000 in
set_option maxRecDepth 100000 in
theorem put_any (B g : Nat) (bs : List Value) (n : Int) (w : World) (h : Holds B g bs w) (hlen : bs.length + 1 ≤ 140737488355328) (hBw : B ≤ w.heap.size) (h0 : 0 ≤ n) (h9 : n < 10) :
    Calls Try.prog 100 #[.int .u64 n, .pointer (some ⟨g, 0, none⟩)] w fun e w' => e = .returned (.tuple #[]) ∧ Holds B g (bs ++ [.int .u8 (48 + n)]) w' ∧ Below g w w' ∧ (∀ k x y, k ≠ g → Two w k x y → Two w' k x y) := by
  obtain ⟨i0, hi, hz0, hz1, hz2⟩ := info_parts info5
  obtain ⟨hgB, v, hbk, hown, hne⟩ := h
  have hlt : g < w.heap.size := lt_of_block hbk
  have c0 : w.cell? ⟨g, 0, none⟩ = some v := by rw [cell_of_row w g 0 _ _ _ hbk]; rfl
  go_enter Try.func100, Try.ntmps100
  go_wp2_with (at_builtin; refine wpList_append_own _ rfl _ _ 107 rfl B 5 i0 (.int .u8 0) 1 1 Try.underlying107 hi hz0 hz1 hz2 rfl (by decide) _ _ _ rfl (hown.alloc _) ⟨w.heap.size, 0, none⟩ 1 1 [.int .u8 (48 + n)] rfl rfl (one_new _ _ _) (by intro u hu; simp at hu; subst hu; rfl) (by unfold maxLen; omega) (by omega) (by simp <;> omega) ?_)
  intro v' w2 hown' hgrow _
  have hb2 : w2.heap[g]? = some (.cells #[v] 107 (0, 0)) := by
    rw [hgrow.block g (by simp <;> omega) (fun e => hne e.symm), Below.heap_alloc w _ g hlt]
    exact hbk
  have d0 : w2.cell? ⟨g, 0, none⟩ = some v := by rw [cell_of_row w2 g 0 _ _ _ hb2]; rfl
  have f0 : w2.frozen? ⟨g, 0, none⟩ = false := frozen_of_row w2 g 0 _ _ hb2
  have hne' := owns_ne hown' hb2
  obtain ⟨k, cap, rfl⟩ : ∃ k cap, v' = .slice (some ⟨k, 0, none⟩) (bs.length + 1) cap := by
    rcases hown'.2 with ⟨_, h0⟩ | ⟨g, cap, cur, hv, _⟩
    · omega
    · exact ⟨g, cap, hv⟩
  go_wp2
  go_end0
  refine ⟨rfl, ⟨hgB, _, one_setCell hb2, ownsRow_setCell_other (by simpa using hown') hne' _, hne'⟩, ?_, fun k x y hk ht => ?_⟩
  · exact ((((Below.refl g w).alloc (by omega) _).grown hgrow (by simp <;> omega) (fun k hk => Nat.le_trans hgB (hown.lt k hk).1)).setCell (p := ⟨g, 0, none⟩) (Nat.le_refl _) _)
  · refine Two.setCell ?_ _ hk
    unfold Two
    rw [hgrow.block k (by have := ht.lt; simp <;> omega) (fun e => owns_two hown ht e.symm), Below.heap_alloc w _ k ht.lt]
    exact ht
end Go.Proofs.Ytadilccdipcmnaa
