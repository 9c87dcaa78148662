/- An argument that is a slice of structs of numbers, or of numbers, of 64 bits, opened to its numbers. Condition: each field is one cell, of a signed number of 64 bits. -/
import Derived.Deep.Slices
import Derived.Test.YtadilccdipcmnaaAgg
namespace Go.Proofs.Ytadilccdipcmnaa
open Go Go.RowKit Go.WideShapes Go.ChangeShapes Go.Deep
section
variable {H : Type} {enc : TypeId × Value → H} {P : Program} {w : World} {base : Nat} {spare : Nat → Bool} {held : Bool}
theorem trod_nums {t : TypeId} {fs : Array Field} {fuel : Nat} {cs : List Value} {x : DataW H × List MemPlace} (hs : P.underlying t = some (.struct fs)) (hone : oneCellFields P fs = true)
    (hI : ∀ (i : Nat) (f : Field), fs[i]? = some f → P.underlying f.type = some (.int .i64)) (h : DataW.trod enc P w base spare held fuel t cs = some x) :
    ∃ s : Nat → Int, ∀ i, i < fs.size → cs[i]? = some (.int .i64 (s i)) ∧ okI (s i) := by
  obtain ⟨xs, n, _, hx, _, hlen, hg⟩ := DataW.trod_struct hs h
  have key : ∀ i, ∃ m : Int, i < fs.size → cs[i]? = some (.int .i64 m) ∧ okI m := by
    intro i
    by_cases hi : i < fs.size
    · obtain ⟨ho, hk⟩ := hone_of hone i fs[i] (Array.getElem?_eq_getElem hi)
      have h1 := hg i fs[i] (Array.getElem?_eq_getElem hi)
      have h2 : xs[i]? = some (xs[i]'(by omega)) := List.getElem?_eq_getElem (by omega)
      rw [ho, hk, h2] at h1
      obtain ⟨m, e, _, hw⟩ := DataW.trod_int (hI i fs[i] (Array.getElem?_eq_getElem hi)) h1
      obtain ⟨l, u⟩ := bounds_i64 hw
      refine ⟨m, fun _ => ⟨?_, by unfold okI; omega⟩⟩
      have h3 : ((cs.drop i).take 1)[0]? = some (.int .i64 m) := by rw [e]; rfl
      simpa [List.getElem?_take, List.getElem?_drop] using h3
    · exact ⟨0, fun h => absurd h hi⟩
  exact ⟨fun i => Classical.choose (key i), fun i hi => Classical.choose_spec (key i) hi⟩
theorem open_acts {r : Reach} {b0 : Nat} {t e : TypeId} {fs : Array Field} {v : Value} {d : DataW H} {p : List MemPlace} (ht : P.underlying t = some (.slice e)) (hs : P.underlying e = some (.struct fs)) (hone : oneCellFields P fs = true) (hC : P.cellsOf e = fs.size) (hpos : 0 < fs.size)
    (hI : ∀ (i : Nat) (f : Field), fs[i]? = some f → P.underlying f.type = some (.int .i64)) (hv : Value.okWide P w r b0 t v) (h : DataW.Trod enc P w base spare held t v d p) :
    ∃ ao n cap, v = .slice ao n cap ∧ (0 < n → ∃ b off, ao = some ⟨b, off, none⟩ ∧ b < w.heap.size ∧ ∃ s : Nat → Nat → Int, ∀ i, i < n → ∀ j, j < fs.size → w.cell? ⟨b, off + i * fs.size + j, none⟩ = some (.int .i64 (s i j)) ∧ okI (s i j)) := by
  obtain ⟨ao, n, cap, rfl⟩ := okWide_slice ht hv
  refine ⟨ao, n, cap, rfl, fun hn => ?_⟩
  obtain ⟨fuel, hf⟩ := h
  rcases open_slice ht hf with ⟨h0, -⟩ | ⟨a, len, cp, m, nn, D, Pl, hcs, hb, hl, hm, hmm, hx, hi⟩
  · simp [Value.cells] at h0
    omega
  · simp [Value.cells] at hcs
    obtain ⟨rfl, rfl, rfl⟩ := hcs
    have hmn : n ≤ m := by rw [hmm]; split <;> omega
    have key : ∀ i, ∃ s : Nat → Int, i < n → ∀ j, j < fs.size → w.cell? (a.add (i * fs.size + j)) = some (.int .i64 (s j)) ∧ okI (s j) := by
      intro i
      by_cases hin : i < n
      · obtain ⟨cs', hc, ht'⟩ := hi i (by omega)
        rw [hC] at hc
        obtain ⟨_, hcl, hat⟩ := World.cells?_some hc
        obtain ⟨s, hs'⟩ := trod_nums hs hone hI ht'
        refine ⟨s, fun _ j hj => ?_⟩
        obtain ⟨h1, h2⟩ := hs' j hj
        rw [← Addr.add_add, hat j hj]
        exact ⟨h1, h2⟩
      · exact ⟨fun _ => 0, fun h => absurd h hin⟩
    have h00 := Classical.choose_spec (key 0) hn 0 hpos
    have hsp : a.spot = none := by
      have h1 := h00.1
      rw [show 0 * fs.size + 0 = 0 by omega, show a.add 0 = a by simp [Addr.add]] at h1
      unfold World.cell? at h1
      split at h1
      · split at h1
        · cases h1
        · rename_i h2
          simpa using h2
      · cases h1
    have hbl : a.block < w.heap.size := by
      have h1 := h00.1
      rw [show 0 * fs.size + 0 = 0 by omega, show a.add 0 = a by simp [Addr.add]] at h1
      exact World.block_lt_of_cell? w a h1
    obtain ⟨ab, ao, asp⟩ := a
    simp only at hsp
    subst hsp
    refine ⟨ab, ao, rfl, hbl, fun i j => Classical.choose (key i) j, fun i hin j hj => ?_⟩
    have h2 := Classical.choose_spec (key i) hin j hj
    rw [Addr.add_lit, ← Nat.add_assoc] at h2
    exact h2
theorem open_ints1 {r : Reach} {b0 : Nat} {t e : TypeId} {v : Value} {d : DataW H} {p : List MemPlace} (ht : P.underlying t = some (.slice e)) (he : P.underlying e = some (.int .i64)) (hC : P.cellsOf e = 1) (hv : Value.okWide P w r b0 t v) (h : DataW.Trod enc P w base spare held t v d p) :
    ∃ ao n cap, v = .slice ao n cap ∧ (0 < n → ∃ b off, ao = some ⟨b, off, none⟩ ∧ b < w.heap.size ∧ ∃ s : Nat → Int, ∀ i, i < n → w.cell? ⟨b, off + i, none⟩ = some (.int .i64 (s i)) ∧ okI (s i)) := by
  obtain ⟨ao, n, cap, rfl⟩ := okWide_slice ht hv
  refine ⟨ao, n, cap, rfl, fun hn => ?_⟩
  obtain ⟨fuel, hf⟩ := h
  rcases open_slice ht hf with ⟨h0, -⟩ | ⟨a, len, cp, m, nn, D, Pl, hcs, hb, hl, hm, hmm, hx, hi⟩
  · simp [Value.cells] at h0
    omega
  · simp [Value.cells] at hcs
    obtain ⟨rfl, rfl, rfl⟩ := hcs
    have hmn : n ≤ m := by rw [hmm]; split <;> omega
    have key : ∀ i, ∃ s : Int, i < n → w.cell? (a.add i) = some (.int .i64 s) ∧ okI s := by
      intro i
      by_cases hin : i < n
      · obtain ⟨cs', hc, ht'⟩ := hi i (by omega)
        rw [hC, Nat.mul_one] at hc
        obtain ⟨_, hcl, hat⟩ := World.cells?_some hc
        obtain ⟨s, rfl, _, hw⟩ := DataW.trod_int he ht'
        obtain ⟨l, u⟩ := bounds_i64 hw
        refine ⟨s, fun _ => ⟨?_, by unfold okI; omega⟩⟩
        have h1 := hat 0 (by omega)
        rw [show (a.add i).add 0 = a.add i by simp [Addr.add]] at h1
        exact h1
      · exact ⟨0, fun h => absurd h hin⟩
    obtain ⟨s, hs⟩ : ∃ s : Nat → Int, ∀ i, i < n → w.cell? (a.add i) = some (.int .i64 (s i)) ∧ okI (s i) := ⟨fun i => Classical.choose (key i), fun i hin => Classical.choose_spec (key i) hin⟩
    have h00 := hs 0 hn
    have hsp : a.spot = none := by
      have h1 := h00.1
      rw [show a.add 0 = a by simp [Addr.add]] at h1
      unfold World.cell? at h1
      split at h1
      · split at h1
        · cases h1
        · rename_i h2
          simpa using h2
      · cases h1
    have hbl : a.block < w.heap.size := by
      have h1 := h00.1
      rw [show a.add 0 = a by simp [Addr.add]] at h1
      exact World.block_lt_of_cell? w a h1
    obtain ⟨ab, ao, asp⟩ := a
    simp only at hsp
    subst hsp
    refine ⟨ab, ao, rfl, hbl, s, fun i hin => ?_⟩
    have h2 := hs i hin
    rw [Addr.add_lit] at h2
    exact h2
end
end Go.Proofs.Ytadilccdipcmnaa
