/- An argument that is a struct of numbers of 64 bits, opened to its numbers. Condition: each field is one cell, of a signed number of 64 bits. -/
import Derived.Deep.Fields
import Derived.WideKeyArgs
import Derived.WalkKit
import Derived.OpenShut
import Derived.Test.YtadilccdipcmnaaFixA
namespace Go.Proofs.Ytadilccdipcmnaa
open Go Go.RowKit Go.WideShapes Go.ChangeShapes Go.Deep
/-- Every field is a signed number of 64 bits. -/
def numsB (P : Program) (fs : Array Field) : Bool := fs.all fun f => match P.underlying f.type with
  | some (.int .i64) => true
  | _ => false
theorem nums_of {P : Program} {fs : Array Field} (h : numsB P fs = true) (i : Nat) (f : Field) (hf : fs[i]? = some f) : P.underlying f.type = some (.int .i64) := by
  have h1 := Array.all_eq_true'.1 h f (Array.mem_of_getElem? hf)
  split at h1
  · assumption
  · cases h1
section
variable {H : Type} {enc : TypeId × Value → H} {P : Program} {w : World} {base : Nat} {spare : Nat → Bool} {held : Bool}
theorem open_nums {r : Reach} {b0 : Nat} {t : TypeId} {fs : Array Field} {v : Value} {d : DataW H} {p : List MemPlace} (hs : P.underlying t = some (.struct fs)) (hone : oneCellFields P fs = true) (hC : P.cellsOf t = fs.size)
    (hI : ∀ (i : Nat) (f : Field), fs[i]? = some f → P.underlying f.type = some (.int .i64)) (hv : Value.okWide P w r b0 t v) (h : DataW.Trod enc P w base spare held t v d p) :
    ∃ s : Nat → Int, v = .agg ((List.range fs.size).map fun i => Value.int .i64 (s i)).toArray ∧ ∀ i, i < fs.size → okI (s i) := by
  obtain ⟨cs, rfl, hsz⟩ := okWide_struct hs hv
  obtain ⟨fuel, hf⟩ := h
  obtain ⟨xs, n, _, hx, _, hlen, hg⟩ := DataW.trod_struct hs hf
  have key : ∀ i, ∃ m : Int, i < fs.size → cs.toList[i]? = some (.int .i64 m) ∧ okI m := by
    intro i
    by_cases hi : i < fs.size
    · obtain ⟨ho, hk⟩ := hone_of hone i fs[i] (Array.getElem?_eq_getElem hi)
      have h1 := hg i fs[i] (Array.getElem?_eq_getElem hi)
      have h2 : xs[i]? = some (xs[i]'(by omega)) := List.getElem?_eq_getElem (by omega)
      rw [ho, hk, h2] at h1
      obtain ⟨m, e, _, hw⟩ := DataW.trod_int (hI i fs[i] (Array.getElem?_eq_getElem hi)) h1
      obtain ⟨l, u⟩ := bounds_i64 hw
      refine ⟨m, fun _ => ⟨?_, by unfold okI; omega⟩⟩
      have e' : (cs.toList.drop i).take 1 = [.int .i64 m] := e
      have h3 : ((cs.toList.drop i).take 1)[0]? = some (.int .i64 m) := by rw [e']; rfl
      simpa [List.getElem?_take, List.getElem?_drop] using h3
    · exact ⟨0, fun h => absurd h hi⟩
  refine ⟨fun i => Classical.choose (key i), ?_, fun i hi => (Classical.choose_spec (key i) hi).2⟩
  congr 1
  apply Array.toList_inj.1
  apply List.ext_getElem?
  intro i
  by_cases hi : i < fs.size
  · rw [(Classical.choose_spec (key i) hi).1]
    simp [hi]
  · rw [List.getElem?_eq_none (by simp; omega), List.getElem?_eq_none (by simp; omega)]
end
end Go.Proofs.Ytadilccdipcmnaa
