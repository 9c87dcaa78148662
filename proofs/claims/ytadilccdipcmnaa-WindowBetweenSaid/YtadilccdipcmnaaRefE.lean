/- The reference's numbers of 128 bits: what Text comes to. Argument: an array of the bits of a number from 0 to 2^128 - 1. -/
import Derived.Test.YtadilccdipcmnaaRefD
namespace Go.Proofs.Ytadilccdipcmnaa
open Go Go.RowKit

def digit (n : Nat) : UInt8 := UInt8.ofNat (48 + n)
/-- A number's digits. -/
def dec (n : Nat) : List UInt8 := if _h : n / 10 = 0 then [digit (n % 10)] else dec (n / 10) ++ [digit (n % 10)]
termination_by n
decreasing_by omega
theorem dec_last {n : Nat} (h : n / 10 = 0) : dec n = [digit (n % 10)] := by rw [dec, dif_pos h]
theorem dec_more {n : Nat} (h : ¬ n / 10 = 0) : dec n = dec (n / 10) ++ [digit (n % 10)] := by rw [dec, dif_neg h]

theorem dec_len (k : Nat) : ∀ n, n < 10 ^ (k + 1) → (dec n).length ≤ k + 1 := by
  induction k with
  | zero =>
    intro n hn
    rw [dec_last (by omega)]
    simp
  | succ k ih =>
    intro n hn
    by_cases h : n / 10 = 0
    · rw [dec_last h]
      simp
    · rw [dec_more h, List.length_append]
      have := ih (n / 10) (by rw [Nat.pow_succ] at hn; omega)
      simp
      omega
/-- A conversion that leaves the world alone. -/
theorem conv_step {ops : Array Oper} {rest : List Oper} {o : Oper} {a : Act} {w : World} {Q : Exit → Act → World → Prop} {src dst : TypeId} {x : Operand} {v : Value} (hgd : o.guard = none) (ho : o.op = .convert src dst x) (hr : (convert src dst (a.eval x)).run Try.prog w = .ok v w)
    (h : wpList Try.prog ops Q rest (a.put o.dst v) w) : wpList Try.prog ops Q (o :: rest) a w :=
  wpList_plain hgd fun K hK => by
    unfold Oper.wp
    simp only [execOp, ho, Sem.run_bind, hr, Result.andThen, Sem.run_pure]
    exact hK _ _ h
set_option maxRecDepth 100000 in
set_option maxHeartbeats 4000000 in
theorem reftext_any (x : Int) (w : World) (h0 : 0 ≤ x) (h : x < M128) :
    Calls Try.prog 38 #[.agg (bf (bitF x))] w fun e w' => e = .returned (.string ⟨(dec x.toNat).toArray⟩) ∧ Below w.heap.size w w' := by
  obtain ⟨n, rfl⟩ := Int.eq_ofNat_of_zero_le h0
  rw [Int.toNat_natCast]
  go_enter Try.func38, Try.ntmps38
  go_wp2
  go_loopg [3] n (fun m s wr => ∃ (t : List UInt8), m ≤ n ∧ s = .string ⟨t.toArray⟩ ∧ dec n = dec m ++ t ∧ Row wr w.heap.size (bitF m) ∧ Below w.heap.size w wr)
  case atStart => exact ⟨[], by omega, rfl, by simp, (by (repeat' (first | (with_reducible assumption) | ((with_reducible apply Row.zero'); simp; done) | ((with_reducible apply Row.new'); simp; done) | (with_reducible apply Row.setRow) | (with_reducible apply Row.setRow_other) | (with_reducible apply Row.alloc) | (with_reducible apply Row.drew) | (simp; done) | (simp; omega)))), (Below.refl _ _).alloc (Nat.le_refl _) _⟩
  case round =>
    obtain ⟨t, hm, rfl, hd, rA, hB⟩ := hrel
    have ht : t.length ≤ 39 := by
      have h1 := dec_len 38 n (by rw [M128_eq] at h; omega)
      rw [hd, List.length_append] at h1
      omega
    have Hd := hide hd
    clear hd
    have hM : (0 : Int) ≤ (gk : Int) := by omega
    have hM2 : (gk : Int) < M128 := by omega
    go_wp2_with (first | ((with_reducible apply load_row); exact rfl; exact rfl; exact rfl; focus ((repeat' (first | (with_reducible assumption) | ((with_reducible apply Row.zero'); simp; done) | ((with_reducible apply Row.new'); simp; done) | (with_reducible apply Row.setRow) | (with_reducible apply Row.setRow_other) | (with_reducible apply Row.alloc) | (with_reducible apply Row.drew) | (simp; done) | (simp; omega))); done)) | ((with_reducible apply store_row); exact rfl; exact rfl; exact rfl; exact rfl; focus ((repeat' (first | (with_reducible assumption) | ((with_reducible apply Row.zero'); simp; done) | ((with_reducible apply Row.new'); simp; done) | (with_reducible apply Row.setRow) | (with_reducible apply Row.setRow_other) | (with_reducible apply Row.alloc) | (with_reducible apply Row.drew) | (simp; done) | (simp; omega))); done)))
    (with_reducible refine (refdiv_any gk 10 _ hM hM2 (by decide) (by decide)).mono ?_)
    rintro e w1 ⟨rfl, hb1⟩
    have rA1 := rA.below hb1 rA.lt
    have hB1 := hB.trans (hb1.mono hB.size)
    clear hb1 rA hB
    have lA := rA1.lt
    go_wp2_with (first | ((with_reducible apply load_row); exact rfl; exact rfl; exact rfl; focus ((repeat' (first | (with_reducible assumption) | ((with_reducible apply Row.zero'); simp; done) | ((with_reducible apply Row.new'); simp; done) | (with_reducible apply Row.setRow) | (with_reducible apply Row.setRow_other) | (with_reducible apply Row.alloc) | (with_reducible apply Row.drew) | (simp; done) | (simp; omega))); done)) | ((with_reducible apply store_row); exact rfl; exact rfl; exact rfl; exact rfl; focus ((repeat' (first | (with_reducible assumption) | ((with_reducible apply Row.zero'); simp; done) | ((with_reducible apply Row.new'); simp; done) | (with_reducible apply Row.setRow) | (with_reducible apply Row.setRow_other) | (with_reducible apply Row.alloc) | (with_reducible apply Row.drew) | (simp; done) | (simp; omega))); done)))
    (with_reducible refine (halves_any ((gk : Int) % 10) _ (by omega) (by omega)).mono ?_)
    rintro e w2 ⟨rfl, hb2⟩
    have rA2 : Row w2 w.heap.size (bitF gk) := Row.below (by (repeat' (first | (with_reducible assumption) | ((with_reducible apply Row.zero'); simp; done) | ((with_reducible apply Row.new'); simp; done) | (with_reducible apply Row.setRow) | (with_reducible apply Row.setRow_other) | (with_reducible apply Row.alloc) | (with_reducible apply Row.drew) | (simp; done) | (simp; omega)))) hb2 (by simp <;> omega)
    have rQ2 : Row w2 w1.heap.size (bitF ((gk : Int) / 10)) := Row.below (by (repeat' (first | (with_reducible assumption) | ((with_reducible apply Row.zero'); simp; done) | ((with_reducible apply Row.new'); simp; done) | (with_reducible apply Row.setRow) | (with_reducible apply Row.setRow_other) | (with_reducible apply Row.alloc) | (with_reducible apply Row.drew) | (simp; done) | (simp; omega)))) hb2 (by simp <;> omega)
    have hB2 : Below w.heap.size w w2 := (below_setRow (below_setRow ((hB1.alloc hB1.size _).alloc (by have := hB1.size; simp <;> omega) _) (by omega) _) (by omega) _).trans (hb2.mono (by have := hB1.size; simp <;> omega))
    clear hb2 rA1 hB1 lA
    have lA := rA2.lt
    have lQ := rQ2.lt
    rw [show (gk : Int) % 10 % M64 = ((gk % 10 : Nat) : Int) by rw [M64_eq]; omega]
    have hconv : (convert 107 9 (.slice (some ⟨w2.heap.size, 0, none⟩) 1 1)).run Try.prog (w2.alloc (.cells #[.int .u8 (48 + (gk : Int) % 10)] 5)) = .ok (.string ⟨[digit (gk % 10)].toArray⟩) (w2.alloc (.cells #[.int .u8 (48 + (gk : Int) % 10)] 5)) := by
      rw [run_convert_bytes_arg (P := Try.prog) (w2.alloc (.cells #[.int .u8 (48 + (gk : Int) % 10)] 5)) 107 5 Try.underlying107 Try.underlying5 w2.heap.size 0 1 1 [48 + (gk : Int) % 10] rfl (fun i hi => by
        obtain rfl : i = 0 := by omega
        have := heap_alloc_new w2 (.cells #[.int .u8 (48 + (gk : Int) % 10)] 5)
        rw [cell_of_row _ _ _ _ _ _ this]
        rfl) 9 Try.underlying9]
      simp only [strOfNums, List.map_cons, List.map_nil, digit]
      rw [show (48 + (gk : Int) % 10).toNat = 48 + gk % 10 by omega]
    have Hconv := hide hconv
    clear hconv
    go_wp2_with (first | ((with_reducible apply load_row); exact rfl; exact rfl; exact rfl; focus ((repeat' (first | (with_reducible assumption) | ((with_reducible apply Row.zero'); simp; done) | ((with_reducible apply Row.new'); simp; done) | (with_reducible apply Row.setRow) | (with_reducible apply Row.setRow_other) | (with_reducible apply Row.alloc) | (with_reducible apply Row.drew) | (simp; done) | (simp; omega))); done)) | ((with_reducible apply store_row); exact rfl; exact rfl; exact rfl; exact rfl; focus ((repeat' (first | (with_reducible assumption) | ((with_reducible apply Row.zero'); simp; done) | ((with_reducible apply Row.new'); simp; done) | (with_reducible apply Row.setRow) | (with_reducible apply Row.setRow_other) | (with_reducible apply Row.alloc) | (with_reducible apply Row.drew) | (simp; done) | (simp; omega))); done)) | ((with_reducible apply conv_step); exact rfl; exact rfl; exact Hconv.out))
    clear Hconv
    have es := hide (show (ByteArray.mk #[digit (gk % 10)] ++ ByteArray.mk t.toArray) = ⟨(digit (gk % 10) :: t).toArray⟩ by rw [ByteArray.mk_append_mk]; simp)
    (with_reducible refine (len_any ((gk : Int) / 10) _ (by omega) (by omega)).mono ?_)
    rintro e w3 ⟨rfl, hb3⟩
    have rA3 : Row w3 w.heap.size (bitF gk) := Row.below (by (repeat' (first | (with_reducible assumption) | ((with_reducible apply Row.zero'); simp; done) | ((with_reducible apply Row.new'); simp; done) | (with_reducible apply Row.setRow) | (with_reducible apply Row.setRow_other) | (with_reducible apply Row.alloc) | (with_reducible apply Row.drew) | (simp; done) | (simp; omega)))) hb3 (by simp <;> omega)
    have rQ3 : Row w3 w1.heap.size (bitF ((gk : Int) / 10)) := Row.below (by (repeat' (first | (with_reducible assumption) | ((with_reducible apply Row.zero'); simp; done) | ((with_reducible apply Row.new'); simp; done) | (with_reducible apply Row.setRow) | (with_reducible apply Row.setRow_other) | (with_reducible apply Row.alloc) | (with_reducible apply Row.drew) | (simp; done) | (simp; omega)))) hb3 (by simp <;> omega)
    have hB3 : Below w.heap.size w w3 := (hB2.alloc hB2.size _).trans (hb3.mono (by simp <;> omega))
    clear hb3 rA2 rQ2 hB2 lA lQ
    have lA := rA3.lt
    have lQ := rQ3.lt
    have hbl : blen ((gk : Int) / 10) = blenN (gk / 10) := by
      unfold blen
      rw [show ((gk : Int) / 10).toNat = gk / 10 by omega]
    rw [hbl]
    clear hbl
    by_cases hz : gk / 10 = 0
    · have D := hide (dec_last hz)
      have T : ((blenN (gk / 10) : Int) == 0) = true := by rw [hz]; rfl
      clear hz
      go_wp2_with (first | ((with_reducible apply load_row); exact rfl; exact rfl; exact rfl; focus ((repeat' (first | (with_reducible assumption) | ((with_reducible apply Row.zero'); simp; done) | ((with_reducible apply Row.new'); simp; done) | (with_reducible apply Row.setRow) | (with_reducible apply Row.setRow_other) | (with_reducible apply Row.alloc) | (with_reducible apply Row.drew) | (simp; done) | (simp; omega))); done)) | ((with_reducible apply store_row); exact rfl; exact rfl; exact rfl; exact rfl; focus ((repeat' (first | (with_reducible assumption) | ((with_reducible apply Row.zero'); simp; done) | ((with_reducible apply Row.new'); simp; done) | (with_reducible apply Row.setRow) | (with_reducible apply Row.setRow_other) | (with_reducible apply Row.alloc) | (with_reducible apply Row.drew) | (simp; done) | (simp; omega))); done)))
      go_ret
      exact ⟨by rw [es.out, Hd.out, D.out]; rfl, hB3⟩
    · have D := hide (dec_more hz)
      have T : ((blenN (gk / 10) : Int) == 0) = false := by
        have h1 : blenN (gk / 10) ≠ 0 := by unfold blenN; rw [if_neg hz]; omega
        simp; omega
      have Hz := hide hz
      clear hz
      go_wp2_with (first | ((with_reducible apply load_row); exact rfl; exact rfl; exact rfl; focus ((repeat' (first | (with_reducible assumption) | ((with_reducible apply Row.zero'); simp; done) | ((with_reducible apply Row.new'); simp; done) | (with_reducible apply Row.setRow) | (with_reducible apply Row.setRow_other) | (with_reducible apply Row.alloc) | (with_reducible apply Row.drew) | (simp; done) | (simp; omega))); done)) | ((with_reducible apply store_row); exact rfl; exact rfl; exact rfl; exact rfl; focus ((repeat' (first | (with_reducible assumption) | ((with_reducible apply Row.zero'); simp; done) | ((with_reducible apply Row.new'); simp; done) | (with_reducible apply Row.setRow) | (with_reducible apply Row.setRow_other) | (with_reducible apply Row.alloc) | (with_reducible apply Row.drew) | (simp; done) | (simp; omega))); done)))
      go_roundg (gk / 10)
      case measure => have := Hz.out; omega
      case rel => exact ⟨digit (gk % 10) :: t, by omega, by rw [es.out], by rw [Hd.out, D.out]; simp, by rw [show ((gk / 10 : Nat) : Int) = (gk : Int) / 10 by omega]; exact (by (repeat' (first | (with_reducible assumption) | ((with_reducible apply Row.zero'); simp; done) | ((with_reducible apply Row.new'); simp; done) | (with_reducible apply Row.setRow) | (with_reducible apply Row.setRow_other) | (with_reducible apply Row.alloc) | (with_reducible apply Row.drew) | (simp; done) | (simp; omega)))), below_setRow hB3 (by omega) _⟩
end Go.Proofs.Ytadilccdipcmnaa
