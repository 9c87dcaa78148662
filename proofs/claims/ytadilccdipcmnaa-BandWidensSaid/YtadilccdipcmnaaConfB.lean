/- Package config: what a symbol's rules come to. Arguments: any symbol. -/
import Derived.Test.YtadilccdipcmnaaConfA
import Derived.Test.YtadilccdipcmnaaBandD
namespace Go.Proofs.Ytadilccdipcmnaa
open Go Go.RowKit

/-- Block b holds these numbers. -/
def Ints (w : World) (b : Nat) (zs : List Int) : Prop := w.heap[b]? = some (.cells (zs.map (Value.int .i64)).toArray 2 (0, 0))
theorem Ints.lt {w : World} {b : Nat} {zs : List Int} (h : Ints w b zs) : b < w.heap.size := lt_of_block h
theorem Ints.alloc {w : World} {b : Nat} {zs : List Int} (h : Ints w b zs) (o : Obj) : Ints (w.alloc o) b zs := by
  unfold Ints
  rw [Below.heap_alloc w o b h.lt]
  exact h
theorem Ints.cell {w : World} {b : Nat} {zs : List Int} (h : Ints w b zs) (j : Nat) (hj : j < zs.length) : w.cell? ⟨b, j, none⟩ = some (.int .i64 (zs.getD j 0)) := by
  rw [cell_of_row w b j _ _ _ h]
  simp [hj]
theorem Ints.new (w : World) (zs : List Int) {cs : Array Value} (h : cs = (zs.map (Value.int .i64)).toArray) : Ints (w.alloc (.cells cs 2)) w.heap.size zs := by
  subst h
  exact heap_alloc_new w _
set_option maxRecDepth 100000 in
set_option maxHeartbeats 2000000 in
theorem contains_any (zs : List Int) (lo hi : Int) (b p q : Nat) (w : World) (hz : zs.length ≤ 6) (hp : w.cell? ⟨p, 0, none⟩ = some (.int .i64 lo)) (hq : w.cell? ⟨q, 0, none⟩ = some (.int .i64 hi))
    (hc : ∀ j, j < zs.length → w.cell? ⟨b, j, none⟩ = some (.int .i64 (zs.getD j 0))) :
    Calls Try.prog 135 #[.slice (some ⟨b, 0, none⟩) zs.length zs.length, .func (.func 136) #[] #[.pointer (some ⟨p, 0, none⟩), .pointer (some ⟨q, 0, none⟩)]] w fun e w' => e = .returned (.bool (!zs.all (goodN lo hi))) ∧ w' = w := by
  have HP := hide hp
  have HQ := hide hq
  have HC := hide hc
  have HZ := hide hz
  clear hp hq hc hz
  go_enter Try.func135, Try.ntmps135
  go_wp2_with (fail)
  (with_reducible refine (index_any zs lo hi b p q _ HZ.out HP.out HQ.out HC.out).mono ?_)
  rintro e w1 ⟨⟨r, rfl, hr⟩, rfl⟩
  have HR := hide hr
  clear hr
  dsimp only
  go_wp2
  go_ret
  exact ⟨by rw [← HR.out]; rfl, rfl⟩
set_option maxRecDepth 100000 in
set_option maxHeartbeats 2000000 in
theorem all_any (zs : List Int) (lo hi : Int) (b n : Nat) (w : World) (hn : n = zs.length) (hz : zs.length ≤ 6) (h : Ints w b zs) :
    Calls Try.prog 105 #[.int .i64 lo, .int .i64 hi, .slice (some ⟨b, 0, none⟩) n n] w fun e w' => e = .returned (.bool (zs.all (goodN lo hi))) ∧ Below w.heap.size w w' := by
  subst hn
  have HZ := hide hz
  have hI := hide ((h.alloc (.cells #[.int .i64 lo] 2)).alloc (.cells #[.int .i64 hi] 2))
  have hp : ((w.alloc (.cells #[.int .i64 lo] 2)).alloc (.cells #[.int .i64 hi] 2)).cell? ⟨w.heap.size, 0, none⟩ = some (.int .i64 lo) := by
    rw [cell_of_row _ w.heap.size 0 #[.int .i64 lo] 2 (0, 0) (by rw [Below.heap_alloc _ _ _ (by simp)]; exact heap_alloc_new w _)]
    rfl
  have hq : ((w.alloc (.cells #[.int .i64 lo] 2)).alloc (.cells #[.int .i64 hi] 2)).cell? ⟨w.heap.size + 1, 0, none⟩ = some (.int .i64 hi) := by
    rw [cell_of_row _ (w.heap.size + 1) 0 #[.int .i64 hi] 2 (0, 0) (by have := heap_alloc_new (w.alloc (.cells #[.int .i64 lo] 2)) (.cells #[.int .i64 hi] 2); simpa using this)]
    rfl
  have HP := hide hp
  have HQ := hide hq
  clear hp hq h hz
  go_enter Try.func105, Try.ntmps105
  go_wp2_with (fail)
  (with_reducible refine (contains_any zs lo hi b _ _ _ HZ.out HP.out HQ.out (fun j hj => hI.out.cell j hj)).mono ?_)
  rintro e w1 ⟨rfl, rfl⟩
  dsimp only
  obtain ⟨A, hA⟩ : ∃ A, A = zs.all (goodN lo hi) := ⟨_, rfl⟩
  rw [← hA]
  have HA := hide hA
  clear hA
  cases A
  · go_wp2
    go_ret
    exact ⟨by rw [← HA.out]; rfl, (by (repeat' (first | (with_reducible exact Below.refl _ _) | (with_reducible apply below_setRow) | (with_reducible apply Below.alloc) | (simp; done) | omega | (simp; omega))))⟩
  · go_wp2
    go_ret
    exact ⟨by rw [← HA.out]; rfl, (by (repeat' (first | (with_reducible exact Below.refl _ _) | (with_reducible apply below_setRow) | (with_reducible apply Below.alloc) | (simp; done) | omega | (simp; omega))))⟩
def r1 (s : Nat → Int) : Bool := [s 0, s 1].all (goodN 1 1099511627776)
def r2 (s : Nat → Int) : Bool := priceF (s 1) (s 0) == 0
def r3 (s : Nat → Int) : Bool := [s 2, s 3, s 5, s 10, s 11, s 15].all (goodN 0 9999)
def r4 (s : Nat → Int) : Bool := [s 4, s 6, s 7, s 8].all (goodN 1 1099511627776)
def r5 (s : Nat → Int) : Bool := [s 9].all (goodN 0 10) && [s 12].all (goodN 0 3)
def r6 (s : Nat → Int) : Bool := [s 13].all (goodN 1 500) && [s 14].all (goodN 1 200)
def r7 (s : Nat → Int) : Bool := decide (s 3 ≤ s 2)
set_option maxRecDepth 100000 in
set_option maxHeartbeats 2000000 in
theorem rule1_any (s : Nat → Int) (g : Nat) (w : World) (hS : Sym w g s) :
    Calls Try.prog 104 #[.pointer (some ⟨g, 0, none⟩)] w fun e w' => e = .returned (.bool (r1 s)) ∧ Below w.heap.size w w' := by
  have c0 := hS.cell 0 rfl
  have c1 := hS.cell 1 rfl
  clear hS
  go_enter Try.func104, Try.ntmps104
  go_wp2_with (fail)
  (with_reducible refine (all_any [s 0, s 1] 1 1099511627776 _ 2 _ rfl (by simp) (Ints.new _ _ (by simp))).mono ?_)
  rintro e w1 ⟨rfl, hb⟩
  have B1 := hide (keep_below hb (by (repeat' (first | (with_reducible exact Below.refl _ _) | (with_reducible apply below_setRow) | (with_reducible apply Below.alloc) | (simp; done) | omega | (simp; omega)))) (by simp <;> omega) : Below w.heap.size w w1)
  clear hb
  dsimp only
  go_wp2
  go_ret
  exact ⟨rfl, B1.out⟩
set_option maxRecDepth 100000 in
set_option maxHeartbeats 2000000 in
theorem rule2_any (s : Nat → Int) (g : Nat) (w : World) (hS : Sym w g s) (h0 : okI (s 0)) (h1 : okI (s 1)) :
    Calls Try.prog 106 #[.pointer (some ⟨g, 0, none⟩)] w fun e w' => e = .returned (.bool (r2 s)) ∧ Below w.heap.size w w' := by
  have H0 := hide h0
  have H1 := hide h1
  have c0 := hS.cell 0 rfl
  have c1 := hS.cell 1 rfl
  clear hS h0 h1
  go_enter Try.func106, Try.ntmps106
  go_wp2_with (fail)
  (with_reducible refine (price_any (s 1) (s 0) _ H1.out H0.out).mono ?_)
  rintro e w1 ⟨rfl, rfl⟩
  dsimp only
  go_wp2
  go_ret
  exact ⟨rfl, Below.refl _ _⟩
set_option maxRecDepth 100000 in
set_option maxHeartbeats 2000000 in
theorem rule3_any (s : Nat → Int) (g : Nat) (w : World) (hS : Sym w g s) :
    Calls Try.prog 107 #[.pointer (some ⟨g, 0, none⟩)] w fun e w' => e = .returned (.bool (r3 s)) ∧ Below w.heap.size w w' := by
  have c0 := hS.cell 2 rfl
  have c1 := hS.cell 3 rfl
  have c2 := hS.cell 5 rfl
  have c3 := hS.cell 10 rfl
  have c4 := hS.cell 11 rfl
  have c5 := hS.cell 15 rfl
  clear hS
  go_enter Try.func107, Try.ntmps107
  go_wp2_with (fail)
  (with_reducible refine (all_any [s 2, s 3, s 5, s 10, s 11, s 15] 0 9999 _ 6 _ rfl (by simp) (Ints.new _ _ (by simp))).mono ?_)
  rintro e w1 ⟨rfl, hb⟩
  have B1 := hide (keep_below hb (by (repeat' (first | (with_reducible exact Below.refl _ _) | (with_reducible apply below_setRow) | (with_reducible apply Below.alloc) | (simp; done) | omega | (simp; omega)))) (by simp <;> omega) : Below w.heap.size w w1)
  clear hb
  dsimp only
  go_wp2
  go_ret
  exact ⟨rfl, B1.out⟩
set_option maxRecDepth 100000 in
set_option maxHeartbeats 2000000 in
theorem rule4_any (s : Nat → Int) (g : Nat) (w : World) (hS : Sym w g s) :
    Calls Try.prog 108 #[.pointer (some ⟨g, 0, none⟩)] w fun e w' => e = .returned (.bool (r4 s)) ∧ Below w.heap.size w w' := by
  have c0 := hS.cell 4 rfl
  have c1 := hS.cell 6 rfl
  have c2 := hS.cell 7 rfl
  have c3 := hS.cell 8 rfl
  clear hS
  go_enter Try.func108, Try.ntmps108
  go_wp2_with (fail)
  (with_reducible refine (all_any [s 4, s 6, s 7, s 8] 1 1099511627776 _ 4 _ rfl (by simp) (Ints.new _ _ (by simp))).mono ?_)
  rintro e w1 ⟨rfl, hb⟩
  have B1 := hide (keep_below hb (by (repeat' (first | (with_reducible exact Below.refl _ _) | (with_reducible apply below_setRow) | (with_reducible apply Below.alloc) | (simp; done) | omega | (simp; omega)))) (by simp <;> omega) : Below w.heap.size w w1)
  clear hb
  dsimp only
  go_wp2
  go_ret
  exact ⟨rfl, B1.out⟩
set_option maxRecDepth 100000 in
set_option maxHeartbeats 2000000 in
theorem rule5_any (s : Nat → Int) (g : Nat) (w : World) (hS : Sym w g s) :
    Calls Try.prog 109 #[.pointer (some ⟨g, 0, none⟩)] w fun e w' => e = .returned (.bool (r5 s)) ∧ Below w.heap.size w w' := by
  have hSS := hide hS
  have c0 := hS.cell 9 rfl
  have c1 := hS.cell 12 rfl
  clear hS
  go_enter Try.func109, Try.ntmps109
  go_wp2_with (fail)
  (with_reducible refine (all_any [s 9] 0 10 _ 1 _ rfl (by simp) (Ints.new _ _ (by simp))).mono ?_)
  rintro e w1 ⟨rfl, hb⟩
  have tS : Sym w1 g s := Sym.below (hSS.out.alloc _) hb (by have := hSS.out.lt; simp <;> omega)
  have B1 := hide (keep_below hb (by (repeat' (first | (with_reducible exact Below.refl _ _) | (with_reducible apply below_setRow) | (with_reducible apply Below.alloc) | (simp; done) | omega | (simp; omega)))) (by simp <;> omega) : Below w.heap.size w w1)
  have c2 := tS.cell 12 rfl
  clear hb tS
  dsimp only
  cases h1 : [s 9].all (goodN 0 10)
  · have HO : Hid (r5 s = false) := hide (by unfold r5; rw [h1]; rfl)
    go_wp2
    go_ret
    exact ⟨by rw [HO.out]; rfl, B1.out⟩
  · have HO : Hid (r5 s = [s 12].all (goodN 0 3)) := hide (by unfold r5; rw [h1]; rfl)
    go_wp2_with (fail)
    (with_reducible refine (all_any [s 12] 0 3 _ 1 _ rfl (by simp) (Ints.new _ _ (by simp))).mono ?_)
    rintro e w2 ⟨rfl, hb⟩
    have B2 := hide (keep_below hb (B1.out.alloc B1.out.size _) (by have := B1.out.size; simp <;> omega) : Below w.heap.size w w2)
    clear hb
    dsimp only
    go_wp2
    go_ret
    exact ⟨by rw [HO.out]; simp, B2.out⟩
set_option maxRecDepth 100000 in
set_option maxHeartbeats 2000000 in
theorem rule6_any (s : Nat → Int) (g : Nat) (w : World) (hS : Sym w g s) :
    Calls Try.prog 110 #[.pointer (some ⟨g, 0, none⟩)] w fun e w' => e = .returned (.bool (r6 s)) ∧ Below w.heap.size w w' := by
  have hSS := hide hS
  have c0 := hS.cell 13 rfl
  have c1 := hS.cell 14 rfl
  clear hS
  go_enter Try.func110, Try.ntmps110
  go_wp2_with (fail)
  (with_reducible refine (all_any [s 13] 1 500 _ 1 _ rfl (by simp) (Ints.new _ _ (by simp))).mono ?_)
  rintro e w1 ⟨rfl, hb⟩
  have tS : Sym w1 g s := Sym.below (hSS.out.alloc _) hb (by have := hSS.out.lt; simp <;> omega)
  have B1 := hide (keep_below hb (by (repeat' (first | (with_reducible exact Below.refl _ _) | (with_reducible apply below_setRow) | (with_reducible apply Below.alloc) | (simp; done) | omega | (simp; omega)))) (by simp <;> omega) : Below w.heap.size w w1)
  have c2 := tS.cell 14 rfl
  clear hb tS
  dsimp only
  cases h1 : [s 13].all (goodN 1 500)
  · have HO : Hid (r6 s = false) := hide (by unfold r6; rw [h1]; rfl)
    go_wp2
    go_ret
    exact ⟨by rw [HO.out]; rfl, B1.out⟩
  · have HO : Hid (r6 s = [s 14].all (goodN 1 200)) := hide (by unfold r6; rw [h1]; rfl)
    go_wp2_with (fail)
    (with_reducible refine (all_any [s 14] 1 200 _ 1 _ rfl (by simp) (Ints.new _ _ (by simp))).mono ?_)
    rintro e w2 ⟨rfl, hb⟩
    have B2 := hide (keep_below hb (B1.out.alloc B1.out.size _) (by have := B1.out.size; simp <;> omega) : Below w.heap.size w w2)
    clear hb
    dsimp only
    go_wp2
    go_ret
    exact ⟨by rw [HO.out]; simp, B2.out⟩
set_option maxRecDepth 100000 in
set_option maxHeartbeats 2000000 in
theorem rule7_any (s : Nat → Int) (g : Nat) (w : World) (hS : Sym w g s) :
    Calls Try.prog 111 #[.pointer (some ⟨g, 0, none⟩)] w fun e w' => e = .returned (.bool (r7 s)) ∧ Below w.heap.size w w' := by
  have c0 := hS.cell 3 rfl
  have c1 := hS.cell 2 rfl
  clear hS
  go_enter Try.func111, Try.ntmps111
  go_wp2
  go_ret
  exact ⟨rfl, Below.refl _ _⟩
end Go.Proofs.Ytadilccdipcmnaa
