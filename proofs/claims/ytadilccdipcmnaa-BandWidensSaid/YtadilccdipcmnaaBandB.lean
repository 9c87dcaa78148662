/- Bands of prices: what Clip, In, Touches, Both of the program and of the reference come to. Arguments: any int64. -/
import Derived.Test.YtadilccdipcmnaaBandA
namespace Go.Proofs.Ytadilccdipcmnaa
open Go Go.RowKit
attribute [local go_sem] field_bnd0 field_bnd1

def clipF (x y p : Int) : Option Int := if y < x then none else some (min (max p x) y)
def inF (x y p : Int) : Bool := decide (x ≤ p ∧ p ≤ y)
def touchF (x y bid ask : Int) : Bool := decide ((bid ≠ 0 ∧ bid = y) ∨ (ask ≠ 0 ∧ ask = x))
theorem clip_in (x y p : Int) : ((clipF x y p).isSome && (clipF x y p).getD 0 == p) = inF x y p := by
  unfold clipF inF
  by_cases h : y < x
  · rw [if_pos h, decide_eq_false (by omega)]
    rfl
  · rw [if_neg h]
    by_cases g : x ≤ p ∧ p ≤ y
    · rw [decide_eq_true g]
      simp
      omega
    · rw [decide_eq_false g]
      simp
      omega
set_option maxRecDepth 100000 in
set_option maxHeartbeats 4000000 in
theorem clip_any (x y p : Int) (w : World) :
    Calls Try.prog 80 #[.agg #[.int .i64 x, .int .i64 y], .int .i64 p] w fun e w' => e = .returned (opt (clipF x y p)) ∧ Below w.heap.size w w' := by
  have tA : Bnd (w.alloc (.cells #[.int .i64 x, .int .i64 y] 53)) w.heap.size (.int .i64 x) (.int .i64 y) := Bnd.new _ _ _
  have c0 := tA.c0
  have c1 := tA.c1
  clear tA
  by_cases h : y < x
  · have HO := hide (show clipF x y p = none from if_pos h)
    generalize clipF x y p = O at *
    go_enter Try.func80, Try.ntmps80
    go_wp2
    go_ret2
    exact ⟨by rw [HO.out]; rfl, (Below.refl _ _).alloc (Nat.le_refl _) _⟩
  · have HO := hide (show clipF x y p = some _ from if_neg h)
    generalize clipF x y p = O at *
    go_enter Try.func80, Try.ntmps80
    go_wp2
    go_ret2
    exact ⟨by rw [HO.out]; rfl, (Below.refl _ _).alloc (Nat.le_refl _) _⟩
set_option maxRecDepth 100000 in
set_option maxHeartbeats 4000000 in
theorem refclip_any (x y p : Int) (w : World) :
    Calls Try.prog 81 #[.agg #[.int .i64 x, .int .i64 y], .int .i64 p] w fun e w' => e = .returned (opt (clipF x y p)) ∧ Below w.heap.size w w' := by
  have tA : Bnd (w.alloc (.cells #[.int .i64 x, .int .i64 y] 53)) w.heap.size (.int .i64 x) (.int .i64 y) := Bnd.new _ _ _
  have c0 := tA.c0
  have c1 := tA.c1
  clear tA
  by_cases h : y < x
  · have HO := hide (show clipF x y p = none from if_pos h)
    generalize clipF x y p = O at *
    go_enter Try.func81, Try.ntmps81
    go_wp2
    go_ret2
    exact ⟨by rw [HO.out]; rfl, (Below.refl _ _).alloc (Nat.le_refl _) _⟩
  by_cases h2 : p < x
  · have HO : Hid (clipF x y p = some x) := hide ((if_neg h).trans (by congr 1; omega))
    generalize clipF x y p = O at *
    go_enter Try.func81, Try.ntmps81
    go_wp2
    go_ret2
    exact ⟨by rw [HO.out]; rfl, (Below.refl _ _).alloc (Nat.le_refl _) _⟩
  by_cases h3 : y < p
  · have HO : Hid (clipF x y p = some y) := hide ((if_neg h).trans (by congr 1; omega))
    generalize clipF x y p = O at *
    go_enter Try.func81, Try.ntmps81
    go_wp2
    go_ret2
    exact ⟨by rw [HO.out]; rfl, (Below.refl _ _).alloc (Nat.le_refl _) _⟩
  · have HO : Hid (clipF x y p = some p) := hide ((if_neg h).trans (by congr 1; omega))
    generalize clipF x y p = O at *
    go_enter Try.func81, Try.ntmps81
    go_wp2
    go_ret2
    exact ⟨by rw [HO.out]; rfl, (Below.refl _ _).alloc (Nat.le_refl _) _⟩
set_option maxRecDepth 100000 in
set_option maxHeartbeats 4000000 in
theorem in_any (x y p : Int) (w : World) :
    Calls Try.prog 43 #[.agg #[.int .i64 x, .int .i64 y], .int .i64 p] w fun e w' => e = .returned (.bool (inF x y p)) ∧ Below w.heap.size w w' := by
  have HI := hide (clip_in x y p)
  generalize inF x y p = I at *
  go_enter Try.func43, Try.ntmps43
  go_wp2_with (first | ((with_reducible apply load_bnd); exact rfl; exact rfl; exact rfl; focus ((repeat' (first | (with_reducible assumption) | ((with_reducible apply Bnd.new'); simp; done) | (with_reducible apply Bnd.setRow) | (with_reducible apply Bnd.setRow_other) | (with_reducible apply Bnd.alloc) | (simp; done) | omega | (simp; omega))); done)) | ((with_reducible apply store_bnd); exact rfl; exact rfl; exact rfl; exact rfl; exact rfl; exact rfl; focus ((repeat' (first | (with_reducible assumption) | ((with_reducible apply Bnd.new'); simp; done) | (with_reducible apply Bnd.setRow) | (with_reducible apply Bnd.setRow_other) | (with_reducible apply Bnd.alloc) | (simp; done) | omega | (simp; omega))); done)) | ((with_reducible apply beq_step); exact rfl; exact rfl; exact rfl; exact rfl; simp only [Act.put, List.setIfInBounds_toArray, List.set_cons_zero, List.set_cons_succ]) | ((with_reducible apply bneq_step); exact rfl; exact rfl; exact rfl; exact rfl; simp only [Act.put, List.setIfInBounds_toArray, List.set_cons_zero, List.set_cons_succ]))
  (with_reducible refine (clip_any x y p _).mono ?_)
  rintro e w1 ⟨rfl, hb⟩
  have B1 := hide (keep_below hb (by (repeat' (first | (with_reducible exact Below.refl _ _) | (with_reducible apply below_setRow) | (with_reducible apply Below.alloc) | (simp; done) | omega | (simp; omega)))) (by simp <;> omega) : Below w.heap.size w w1)
  clear hb
  dsimp only
  rw [opt_split]
  cases h1 : (clipF x y p).isSome
  · go_wp2
    go_ret
    exact ⟨by rw [← HI.out, h1]; rfl, B1.out⟩
  · cases h2 : ((clipF x y p).getD 0 == p)
    · go_wp2
      go_ret
      exact ⟨by rw [← HI.out, h1, h2]; rfl, B1.out⟩
    · go_wp2
      go_ret
      exact ⟨by rw [← HI.out, h1, h2]; rfl, B1.out⟩
set_option maxRecDepth 100000 in
set_option maxHeartbeats 4000000 in
theorem refin_any (x y p : Int) (w : World) :
    Calls Try.prog 82 #[.agg #[.int .i64 x, .int .i64 y], .int .i64 p] w fun e w' => e = .returned (.bool (inF x y p)) ∧ Below w.heap.size w w' := by
  have tA : Bnd (w.alloc (.cells #[.int .i64 x, .int .i64 y] 53)) w.heap.size (.int .i64 x) (.int .i64 y) := Bnd.new _ _ _
  have c0 := tA.c0
  have c1 := tA.c1
  clear tA
  by_cases h : x ≤ p
  · by_cases h2 : p ≤ y
    · rw [show inF x y p = true from decide_eq_true ⟨h, h2⟩]
      go_enter Try.func82, Try.ntmps82
      go_wp2
      go_ret
      exact ⟨rfl, (Below.refl _ _).alloc (Nat.le_refl _) _⟩
    · rw [show inF x y p = false from decide_eq_false (by omega)]
      go_enter Try.func82, Try.ntmps82
      go_wp2
      go_ret
      exact ⟨rfl, (Below.refl _ _).alloc (Nat.le_refl _) _⟩
  · rw [show inF x y p = false from decide_eq_false (by omega)]
    go_enter Try.func82, Try.ntmps82
    go_wp2
    go_ret
    exact ⟨rfl, (Below.refl _ _).alloc (Nat.le_refl _) _⟩
set_option maxRecDepth 100000 in
set_option maxHeartbeats 4000000 in
theorem touch_any (x y p q : Int) (w : World) :
    Calls Try.prog 85 #[.agg #[.int .i64 x, .int .i64 y], .int .i64 p, .int .i64 q] w fun e w' => e = .returned (.bool (touchF x y p q)) ∧ Below w.heap.size w w' := by
  have tA : Bnd (w.alloc (.cells #[.int .i64 x, .int .i64 y] 53)) w.heap.size (.int .i64 x) (.int .i64 y) := Bnd.new _ _ _
  have c0 := tA.c0
  have c1 := tA.c1
  clear tA
  have HT : Hid (touchF x y p q = ((!(p == 0) && (p == y)) || (!(q == 0) && (q == x)))) := hide (by
    rw [Bool.eq_iff_iff]
    simp [touchF])
  generalize touchF x y p q = T at *
  by_cases za : p = 0
  · subst za
    have a : ((0 : Int) == 0) = true := rfl
    by_cases zb : 0 = y
    · have b : (0 == y) = true := by simpa using zb
      clear zb
      by_cases zc : q = 0
      · subst zc
        have c : ((0 : Int) == 0) = true := rfl
        by_cases zd : 0 = x
        · have d : (0 == x) = true := by simpa using zd
          clear zd
          have HT2 := hide HT.out
          (try rw [a] at HT2); (try rw [b] at HT2); (try rw [c] at HT2); (try rw [d] at HT2)
          clear HT
          go_enter Try.func85, Try.ntmps85
          go_wp2
          go_ret
          exact ⟨by rw [HT2.out]; rfl, (Below.refl _ _).alloc (Nat.le_refl _) _⟩
        · have d : (0 == x) = false := by simpa using zd
          clear zd
          have HT2 := hide HT.out
          (try rw [a] at HT2); (try rw [b] at HT2); (try rw [c] at HT2); (try rw [d] at HT2)
          clear HT
          go_enter Try.func85, Try.ntmps85
          go_wp2
          go_ret
          exact ⟨by rw [HT2.out]; rfl, (Below.refl _ _).alloc (Nat.le_refl _) _⟩
      · have c : (q == 0) = false := by simpa using zc
        have nc : (q != 0) = true := by simpa using zc
        by_cases zd : q = x
        · have d : (q == x) = true := by simpa using zd
          clear zd
          have HT2 := hide HT.out
          (try rw [a] at HT2); (try rw [b] at HT2); (try rw [c] at HT2); (try rw [d] at HT2)
          clear HT
          go_enter Try.func85, Try.ntmps85
          go_wp2
          go_ret
          exact ⟨by rw [HT2.out]; rfl, (Below.refl _ _).alloc (Nat.le_refl _) _⟩
        · have d : (q == x) = false := by simpa using zd
          clear zd
          have HT2 := hide HT.out
          (try rw [a] at HT2); (try rw [b] at HT2); (try rw [c] at HT2); (try rw [d] at HT2)
          clear HT
          go_enter Try.func85, Try.ntmps85
          go_wp2
          go_ret
          exact ⟨by rw [HT2.out]; rfl, (Below.refl _ _).alloc (Nat.le_refl _) _⟩
    · have b : (0 == y) = false := by simpa using zb
      clear zb
      by_cases zc : q = 0
      · subst zc
        have c : ((0 : Int) == 0) = true := rfl
        by_cases zd : 0 = x
        · have d : (0 == x) = true := by simpa using zd
          clear zd
          have HT2 := hide HT.out
          (try rw [a] at HT2); (try rw [b] at HT2); (try rw [c] at HT2); (try rw [d] at HT2)
          clear HT
          go_enter Try.func85, Try.ntmps85
          go_wp2
          go_ret
          exact ⟨by rw [HT2.out]; rfl, (Below.refl _ _).alloc (Nat.le_refl _) _⟩
        · have d : (0 == x) = false := by simpa using zd
          clear zd
          have HT2 := hide HT.out
          (try rw [a] at HT2); (try rw [b] at HT2); (try rw [c] at HT2); (try rw [d] at HT2)
          clear HT
          go_enter Try.func85, Try.ntmps85
          go_wp2
          go_ret
          exact ⟨by rw [HT2.out]; rfl, (Below.refl _ _).alloc (Nat.le_refl _) _⟩
      · have c : (q == 0) = false := by simpa using zc
        have nc : (q != 0) = true := by simpa using zc
        by_cases zd : q = x
        · have d : (q == x) = true := by simpa using zd
          clear zd
          have HT2 := hide HT.out
          (try rw [a] at HT2); (try rw [b] at HT2); (try rw [c] at HT2); (try rw [d] at HT2)
          clear HT
          go_enter Try.func85, Try.ntmps85
          go_wp2
          go_ret
          exact ⟨by rw [HT2.out]; rfl, (Below.refl _ _).alloc (Nat.le_refl _) _⟩
        · have d : (q == x) = false := by simpa using zd
          clear zd
          have HT2 := hide HT.out
          (try rw [a] at HT2); (try rw [b] at HT2); (try rw [c] at HT2); (try rw [d] at HT2)
          clear HT
          go_enter Try.func85, Try.ntmps85
          go_wp2
          go_ret
          exact ⟨by rw [HT2.out]; rfl, (Below.refl _ _).alloc (Nat.le_refl _) _⟩
  · have a : (p == 0) = false := by simpa using za
    have na : (p != 0) = true := by simpa using za
    by_cases zb : p = y
    · have b : (p == y) = true := by simpa using zb
      clear zb
      by_cases zc : q = 0
      · subst zc
        have c : ((0 : Int) == 0) = true := rfl
        by_cases zd : 0 = x
        · have d : (0 == x) = true := by simpa using zd
          clear zd
          have HT2 := hide HT.out
          (try rw [a] at HT2); (try rw [b] at HT2); (try rw [c] at HT2); (try rw [d] at HT2)
          clear HT
          go_enter Try.func85, Try.ntmps85
          go_wp2
          go_ret
          exact ⟨by rw [HT2.out]; rfl, (Below.refl _ _).alloc (Nat.le_refl _) _⟩
        · have d : (0 == x) = false := by simpa using zd
          clear zd
          have HT2 := hide HT.out
          (try rw [a] at HT2); (try rw [b] at HT2); (try rw [c] at HT2); (try rw [d] at HT2)
          clear HT
          go_enter Try.func85, Try.ntmps85
          go_wp2
          go_ret
          exact ⟨by rw [HT2.out]; rfl, (Below.refl _ _).alloc (Nat.le_refl _) _⟩
      · have c : (q == 0) = false := by simpa using zc
        have nc : (q != 0) = true := by simpa using zc
        by_cases zd : q = x
        · have d : (q == x) = true := by simpa using zd
          clear zd
          have HT2 := hide HT.out
          (try rw [a] at HT2); (try rw [b] at HT2); (try rw [c] at HT2); (try rw [d] at HT2)
          clear HT
          go_enter Try.func85, Try.ntmps85
          go_wp2
          go_ret
          exact ⟨by rw [HT2.out]; rfl, (Below.refl _ _).alloc (Nat.le_refl _) _⟩
        · have d : (q == x) = false := by simpa using zd
          clear zd
          have HT2 := hide HT.out
          (try rw [a] at HT2); (try rw [b] at HT2); (try rw [c] at HT2); (try rw [d] at HT2)
          clear HT
          go_enter Try.func85, Try.ntmps85
          go_wp2
          go_ret
          exact ⟨by rw [HT2.out]; rfl, (Below.refl _ _).alloc (Nat.le_refl _) _⟩
    · have b : (p == y) = false := by simpa using zb
      clear zb
      by_cases zc : q = 0
      · subst zc
        have c : ((0 : Int) == 0) = true := rfl
        by_cases zd : 0 = x
        · have d : (0 == x) = true := by simpa using zd
          clear zd
          have HT2 := hide HT.out
          (try rw [a] at HT2); (try rw [b] at HT2); (try rw [c] at HT2); (try rw [d] at HT2)
          clear HT
          go_enter Try.func85, Try.ntmps85
          go_wp2
          go_ret
          exact ⟨by rw [HT2.out]; rfl, (Below.refl _ _).alloc (Nat.le_refl _) _⟩
        · have d : (0 == x) = false := by simpa using zd
          clear zd
          have HT2 := hide HT.out
          (try rw [a] at HT2); (try rw [b] at HT2); (try rw [c] at HT2); (try rw [d] at HT2)
          clear HT
          go_enter Try.func85, Try.ntmps85
          go_wp2
          go_ret
          exact ⟨by rw [HT2.out]; rfl, (Below.refl _ _).alloc (Nat.le_refl _) _⟩
      · have c : (q == 0) = false := by simpa using zc
        have nc : (q != 0) = true := by simpa using zc
        by_cases zd : q = x
        · have d : (q == x) = true := by simpa using zd
          clear zd
          have HT2 := hide HT.out
          (try rw [a] at HT2); (try rw [b] at HT2); (try rw [c] at HT2); (try rw [d] at HT2)
          clear HT
          go_enter Try.func85, Try.ntmps85
          go_wp2
          go_ret
          exact ⟨by rw [HT2.out]; rfl, (Below.refl _ _).alloc (Nat.le_refl _) _⟩
        · have d : (q == x) = false := by simpa using zd
          clear zd
          have HT2 := hide HT.out
          (try rw [a] at HT2); (try rw [b] at HT2); (try rw [c] at HT2); (try rw [d] at HT2)
          clear HT
          go_enter Try.func85, Try.ntmps85
          go_wp2
          go_ret
          exact ⟨by rw [HT2.out]; rfl, (Below.refl _ _).alloc (Nat.le_refl _) _⟩
set_option maxRecDepth 100000 in
set_option maxHeartbeats 4000000 in
theorem reftouch_any (x y p q : Int) (w : World) :
    Calls Try.prog 86 #[.agg #[.int .i64 x, .int .i64 y], .int .i64 p, .int .i64 q] w fun e w' => e = .returned (.bool (touchF x y p q)) ∧ Below w.heap.size w w' := by
  have tA : Bnd (w.alloc (.cells #[.int .i64 x, .int .i64 y] 53)) w.heap.size (.int .i64 x) (.int .i64 y) := Bnd.new _ _ _
  have c0 := tA.c0
  have c1 := tA.c1
  clear tA
  have HT : Hid (touchF x y p q = ((!(p == 0) && (p == y)) || (!(q == 0) && (q == x)))) := hide (by
    rw [Bool.eq_iff_iff]
    simp [touchF])
  generalize touchF x y p q = T at *
  by_cases za : p = 0
  · subst za
    have a : ((0 : Int) == 0) = true := rfl
    by_cases zb : 0 = y
    · have b : (0 == y) = true := by simpa using zb
      clear zb
      by_cases zc : q = 0
      · subst zc
        have c : ((0 : Int) == 0) = true := rfl
        by_cases zd : 0 = x
        · have d : (0 == x) = true := by simpa using zd
          clear zd
          have HT2 := hide HT.out
          (try rw [a] at HT2); (try rw [b] at HT2); (try rw [c] at HT2); (try rw [d] at HT2)
          clear HT
          go_enter Try.func86, Try.ntmps86
          go_wp2
          go_ret
          exact ⟨by rw [HT2.out]; rfl, (Below.refl _ _).alloc (Nat.le_refl _) _⟩
        · have d : (0 == x) = false := by simpa using zd
          clear zd
          have HT2 := hide HT.out
          (try rw [a] at HT2); (try rw [b] at HT2); (try rw [c] at HT2); (try rw [d] at HT2)
          clear HT
          go_enter Try.func86, Try.ntmps86
          go_wp2
          go_ret
          exact ⟨by rw [HT2.out]; rfl, (Below.refl _ _).alloc (Nat.le_refl _) _⟩
      · have c : (q == 0) = false := by simpa using zc
        have nc : (q != 0) = true := by simpa using zc
        by_cases zd : q = x
        · have d : (q == x) = true := by simpa using zd
          clear zd
          have HT2 := hide HT.out
          (try rw [a] at HT2); (try rw [b] at HT2); (try rw [c] at HT2); (try rw [d] at HT2)
          clear HT
          go_enter Try.func86, Try.ntmps86
          go_wp2
          go_ret
          exact ⟨by rw [HT2.out]; rfl, (Below.refl _ _).alloc (Nat.le_refl _) _⟩
        · have d : (q == x) = false := by simpa using zd
          clear zd
          have HT2 := hide HT.out
          (try rw [a] at HT2); (try rw [b] at HT2); (try rw [c] at HT2); (try rw [d] at HT2)
          clear HT
          go_enter Try.func86, Try.ntmps86
          go_wp2
          go_ret
          exact ⟨by rw [HT2.out]; rfl, (Below.refl _ _).alloc (Nat.le_refl _) _⟩
    · have b : (0 == y) = false := by simpa using zb
      clear zb
      by_cases zc : q = 0
      · subst zc
        have c : ((0 : Int) == 0) = true := rfl
        by_cases zd : 0 = x
        · have d : (0 == x) = true := by simpa using zd
          clear zd
          have HT2 := hide HT.out
          (try rw [a] at HT2); (try rw [b] at HT2); (try rw [c] at HT2); (try rw [d] at HT2)
          clear HT
          go_enter Try.func86, Try.ntmps86
          go_wp2
          go_ret
          exact ⟨by rw [HT2.out]; rfl, (Below.refl _ _).alloc (Nat.le_refl _) _⟩
        · have d : (0 == x) = false := by simpa using zd
          clear zd
          have HT2 := hide HT.out
          (try rw [a] at HT2); (try rw [b] at HT2); (try rw [c] at HT2); (try rw [d] at HT2)
          clear HT
          go_enter Try.func86, Try.ntmps86
          go_wp2
          go_ret
          exact ⟨by rw [HT2.out]; rfl, (Below.refl _ _).alloc (Nat.le_refl _) _⟩
      · have c : (q == 0) = false := by simpa using zc
        have nc : (q != 0) = true := by simpa using zc
        by_cases zd : q = x
        · have d : (q == x) = true := by simpa using zd
          clear zd
          have HT2 := hide HT.out
          (try rw [a] at HT2); (try rw [b] at HT2); (try rw [c] at HT2); (try rw [d] at HT2)
          clear HT
          go_enter Try.func86, Try.ntmps86
          go_wp2
          go_ret
          exact ⟨by rw [HT2.out]; rfl, (Below.refl _ _).alloc (Nat.le_refl _) _⟩
        · have d : (q == x) = false := by simpa using zd
          clear zd
          have HT2 := hide HT.out
          (try rw [a] at HT2); (try rw [b] at HT2); (try rw [c] at HT2); (try rw [d] at HT2)
          clear HT
          go_enter Try.func86, Try.ntmps86
          go_wp2
          go_ret
          exact ⟨by rw [HT2.out]; rfl, (Below.refl _ _).alloc (Nat.le_refl _) _⟩
  · have a : (p == 0) = false := by simpa using za
    have na : (p != 0) = true := by simpa using za
    by_cases zb : p = y
    · have b : (p == y) = true := by simpa using zb
      clear zb
      by_cases zc : q = 0
      · subst zc
        have c : ((0 : Int) == 0) = true := rfl
        by_cases zd : 0 = x
        · have d : (0 == x) = true := by simpa using zd
          clear zd
          have HT2 := hide HT.out
          (try rw [a] at HT2); (try rw [b] at HT2); (try rw [c] at HT2); (try rw [d] at HT2)
          clear HT
          go_enter Try.func86, Try.ntmps86
          go_wp2
          go_ret
          exact ⟨by rw [HT2.out]; rfl, (Below.refl _ _).alloc (Nat.le_refl _) _⟩
        · have d : (0 == x) = false := by simpa using zd
          clear zd
          have HT2 := hide HT.out
          (try rw [a] at HT2); (try rw [b] at HT2); (try rw [c] at HT2); (try rw [d] at HT2)
          clear HT
          go_enter Try.func86, Try.ntmps86
          go_wp2
          go_ret
          exact ⟨by rw [HT2.out]; rfl, (Below.refl _ _).alloc (Nat.le_refl _) _⟩
      · have c : (q == 0) = false := by simpa using zc
        have nc : (q != 0) = true := by simpa using zc
        by_cases zd : q = x
        · have d : (q == x) = true := by simpa using zd
          clear zd
          have HT2 := hide HT.out
          (try rw [a] at HT2); (try rw [b] at HT2); (try rw [c] at HT2); (try rw [d] at HT2)
          clear HT
          go_enter Try.func86, Try.ntmps86
          go_wp2
          go_ret
          exact ⟨by rw [HT2.out]; rfl, (Below.refl _ _).alloc (Nat.le_refl _) _⟩
        · have d : (q == x) = false := by simpa using zd
          clear zd
          have HT2 := hide HT.out
          (try rw [a] at HT2); (try rw [b] at HT2); (try rw [c] at HT2); (try rw [d] at HT2)
          clear HT
          go_enter Try.func86, Try.ntmps86
          go_wp2
          go_ret
          exact ⟨by rw [HT2.out]; rfl, (Below.refl _ _).alloc (Nat.le_refl _) _⟩
    · have b : (p == y) = false := by simpa using zb
      clear zb
      by_cases zc : q = 0
      · subst zc
        have c : ((0 : Int) == 0) = true := rfl
        by_cases zd : 0 = x
        · have d : (0 == x) = true := by simpa using zd
          clear zd
          have HT2 := hide HT.out
          (try rw [a] at HT2); (try rw [b] at HT2); (try rw [c] at HT2); (try rw [d] at HT2)
          clear HT
          go_enter Try.func86, Try.ntmps86
          go_wp2
          go_ret
          exact ⟨by rw [HT2.out]; rfl, (Below.refl _ _).alloc (Nat.le_refl _) _⟩
        · have d : (0 == x) = false := by simpa using zd
          clear zd
          have HT2 := hide HT.out
          (try rw [a] at HT2); (try rw [b] at HT2); (try rw [c] at HT2); (try rw [d] at HT2)
          clear HT
          go_enter Try.func86, Try.ntmps86
          go_wp2
          go_ret
          exact ⟨by rw [HT2.out]; rfl, (Below.refl _ _).alloc (Nat.le_refl _) _⟩
      · have c : (q == 0) = false := by simpa using zc
        have nc : (q != 0) = true := by simpa using zc
        by_cases zd : q = x
        · have d : (q == x) = true := by simpa using zd
          clear zd
          have HT2 := hide HT.out
          (try rw [a] at HT2); (try rw [b] at HT2); (try rw [c] at HT2); (try rw [d] at HT2)
          clear HT
          go_enter Try.func86, Try.ntmps86
          go_wp2
          go_ret
          exact ⟨by rw [HT2.out]; rfl, (Below.refl _ _).alloc (Nat.le_refl _) _⟩
        · have d : (q == x) = false := by simpa using zd
          clear zd
          have HT2 := hide HT.out
          (try rw [a] at HT2); (try rw [b] at HT2); (try rw [c] at HT2); (try rw [d] at HT2)
          clear HT
          go_enter Try.func86, Try.ntmps86
          go_wp2
          go_ret
          exact ⟨by rw [HT2.out]; rfl, (Below.refl _ _).alloc (Nat.le_refl _) _⟩
set_option maxRecDepth 100000 in
set_option maxHeartbeats 4000000 in
theorem refboth_any (x y u v : Int) (w : World) :
    Calls Try.prog 84 #[.agg #[.int .i64 x, .int .i64 y], .agg #[.int .i64 u, .int .i64 v]] w fun e w' => e = .returned (.agg #[.int .i64 (max x u), .int .i64 (min y v)]) ∧ Below w.heap.size w w' := by
  have tA : Bnd ((w.alloc (.cells #[.int .i64 x, .int .i64 y] 53)).alloc (.cells #[.int .i64 u, .int .i64 v] 53)) w.heap.size (.int .i64 x) (.int .i64 y) := (Bnd.new _ _ _).alloc _
  have tB : Bnd ((w.alloc (.cells #[.int .i64 x, .int .i64 y] 53)).alloc (.cells #[.int .i64 u, .int .i64 v] 53)) (w.heap.size + 1) (.int .i64 u) (.int .i64 v) := Bnd.new' _ _ (by simp)
  have c0 := (tA.alloc (.cells #[.int .i64 0, .int .i64 0] 53)).c0
  have c1 := (tA.alloc (.cells #[.int .i64 0, .int .i64 0] 53)).c1
  have c2 := (tB.alloc (.cells #[.int .i64 0, .int .i64 0] 53)).c0
  have c3 := (tB.alloc (.cells #[.int .i64 0, .int .i64 0] 53)).c1
  go_enter Try.func84, Try.ntmps84
  go_wp2_with (first | ((with_reducible apply load_bnd); exact rfl; exact rfl; exact rfl; focus ((repeat' (first | (with_reducible assumption) | ((with_reducible apply Bnd.new'); simp; done) | (with_reducible apply Bnd.setRow) | (with_reducible apply Bnd.setRow_other) | (with_reducible apply Bnd.alloc) | (simp; done) | omega | (simp; omega))); done)) | ((with_reducible apply store_bnd); exact rfl; exact rfl; exact rfl; exact rfl; exact rfl; exact rfl; focus ((repeat' (first | (with_reducible assumption) | ((with_reducible apply Bnd.new'); simp; done) | (with_reducible apply Bnd.setRow) | (with_reducible apply Bnd.setRow_other) | (with_reducible apply Bnd.alloc) | (simp; done) | omega | (simp; omega))); done)) | ((with_reducible apply beq_step); exact rfl; exact rfl; exact rfl; exact rfl; simp only [Act.put, List.setIfInBounds_toArray, List.set_cons_zero, List.set_cons_succ]) | ((with_reducible apply bneq_step); exact rfl; exact rfl; exact rfl; exact rfl; simp only [Act.put, List.setIfInBounds_toArray, List.set_cons_zero, List.set_cons_succ]))
  exact bodyPost_ret (results_bnd rfl _ _ rfl (by (repeat' (first | (with_reducible assumption) | ((with_reducible apply Bnd.new'); simp; done) | (with_reducible apply Bnd.setRow) | (with_reducible apply Bnd.setRow_other) | (with_reducible apply Bnd.alloc) | (simp; done) | omega | (simp; omega))))) rfl ⟨rfl, (by (repeat' (first | (with_reducible exact Below.refl _ _) | (with_reducible apply below_setRow) | (with_reducible apply Below.alloc) | (simp; done) | omega | (simp; omega))))⟩
theorem Bnd.set0 {w : World} {b : Nat} {x y : Value} (h : Bnd w b x y) (x' : Value) : Bnd (w.setCell ⟨b, 0, none⟩ x') b x' y := heap_setCell_same w b 0 _ _ x' h
theorem Bnd.set1 {w : World} {b : Nat} {x y : Value} (h : Bnd w b x y) (y' : Value) : Bnd (w.setCell ⟨b, 1, none⟩ y') b x y' := heap_setCell_same w b 1 _ _ y' h
/-- What common's round keeps while it puts the two prices. -/
def ComC (N : Nat) (w0 : World) (x y u v : Int) (g : Nat → Bool) (w : World) : Prop :=
  (∃ p q, Bnd w N p q ∧ (g 11 = false → p = .int .i64 x) ∧ (g 11 = true → p = .int .i64 (max x u)) ∧ (g 13 = false → q = .int .i64 y) ∧ (g 13 = true → q = .int .i64 (min y v))) ∧
    Bnd w (N + 2) (.int .i64 u) (.int .i64 v) ∧ Bnd w (N + 1) (.int .i64 0) (.int .i64 0) ∧ Below N w0 w
theorem ComC.drew {N : Nat} {w0 : World} {x y u v : Int} {g : Nat → Bool} {w : World} (h : ComC N w0 x y u v g w) : ComC N w0 x y u v g w.drew := ⟨h.1, h.2.1, h.2.2.1, h.2.2.2.drew⟩
set_option maxRecDepth 100000 in
set_option maxHeartbeats 4000000 in
theorem common_any (x y u v : Int) (b : Nat) (w : World) (hS : Bnd w b (.int .i64 u) (.int .i64 v)) :
    Calls Try.prog 125 #[.agg #[.int .i64 x, .int .i64 y], .slice (some ⟨b, 0, none⟩) 1 1] w fun e w' => e = .returned (.agg #[.int .i64 (max x u), .int .i64 (min y v)]) ∧ Below w.heap.size w w' := by
  have hS' := hide hS
  have lb := hS.lt
  clear hS
  go_enter Try.func125, Try.ntmps125
  go_wp2
  obtain ⟨N, hN⟩ : ∃ N, N = w.heap.size := ⟨_, rfl⟩
  rw [← hN]
  have bS : Bnd ((w.alloc (.cells #[.int .i64 x, .int .i64 y] 53)).alloc (.cells #[.int .i64 0, .int .i64 0] 53)) b (.int .i64 u) (.int .i64 v) := (hS'.out.alloc _).alloc _
  have bX : Bnd ((w.alloc (.cells #[.int .i64 x, .int .i64 y] 53)).alloc (.cells #[.int .i64 0, .int .i64 0] 53)) N (.int .i64 x) (.int .i64 y) := Bnd.alloc (Bnd.new' _ _ hN.symm) _
  have bR : Bnd ((w.alloc (.cells #[.int .i64 x, .int .i64 y] 53)).alloc (.cells #[.int .i64 0, .int .i64 0] 53)) (N + 1) (.int .i64 0) (.int .i64 0) := Bnd.new' _ _ (by simp [hN])
  have hB0 : Below N w ((w.alloc (.cells #[.int .i64 x, .int .i64 y] 53)).alloc (.cells #[.int .i64 0, .int .i64 0] 53)) := by
    rw [hN]
    exact (by (repeat' (first | (with_reducible exact Below.refl _ _) | (with_reducible apply below_setRow) | (with_reducible apply Below.alloc) | (simp; done) | omega | (simp; omega))))
  have hsz : ((w.alloc (.cells #[.int .i64 x, .int .i64 y] 53)).alloc (.cells #[.int .i64 0, .int .i64 0] 53)).heap.size = N + 2 := by simp [hN]
  have lb' : b < N := by omega
  have HN := hide hN
  clear hN lb
  go_loopw [9] (fun i wr => (i = .int .i64 0 ∧ Bnd wr N (.int .i64 x) (.int .i64 y) ∧ Bnd wr (N + 1) (.int .i64 0) (.int .i64 0) ∧ Bnd wr b (.int .i64 u) (.int .i64 v) ∧ Below N w wr ∧ wr.heap.size = N + 2) ∨
    (i = .int .i64 1 ∧ Bnd wr N (.int .i64 (max x u)) (.int .i64 (min y v)) ∧ Bnd wr (N + 1) (.int .i64 0) (.int .i64 0) ∧ Below N w wr)) (fun i _ => (1 - intOf i).toNat)
  case atStart => exact .inl ⟨rfl, bX, bR, bS, hB0, hsz⟩
  case round =>
    clear bS bX bR hB0 hsz
    rcases hrel with ⟨rfl, bX, bR, bS, hB, hsz⟩ | ⟨rfl, bX, bR, hB⟩
    · go_wp2_with (first | ((with_reducible apply load_bnd); exact rfl; exact rfl; exact rfl; focus ((repeat' (first | (with_reducible assumption) | ((with_reducible apply Bnd.new'); simp; done) | (with_reducible apply Bnd.setRow) | (with_reducible apply Bnd.setRow_other) | (with_reducible apply Bnd.alloc) | (simp; done) | omega | (simp; omega))); done)) | ((with_reducible apply store_bnd); exact rfl; exact rfl; exact rfl; exact rfl; exact rfl; exact rfl; focus ((repeat' (first | (with_reducible assumption) | ((with_reducible apply Bnd.new'); simp; done) | (with_reducible apply Bnd.setRow) | (with_reducible apply Bnd.setRow_other) | (with_reducible apply Bnd.alloc) | (simp; done) | omega | (simp; omega))); done)) | ((with_reducible apply beq_step); exact rfl; exact rfl; exact rfl; exact rfl; simp only [Act.put, List.setIfInBounds_toArray, List.set_cons_zero, List.set_cons_succ]) | ((with_reducible apply bneq_step); exact rfl; exact rfl; exact rfl; exact rfl; simp only [Act.put, List.setIfInBounds_toArray, List.set_cons_zero, List.set_cons_succ]))
      have hC : ComC N w x y u v (fun _ => false) (wr.alloc (.cells #[.int .i64 u, .int .i64 v] 53)) :=
        ⟨⟨_, _, bX.alloc _, fun _ => rfl, (fun h => by cases h), fun _ => rfl, (fun h => by cases h)⟩, Bnd.new' _ _ hsz, bR.alloc _, hB.alloc (by omega) _⟩
      clear bX bR bS hB hsz
      refine wp_region_drawn (fun g w' => ComC N w x y u v g w') mixed (by kernel_rfl) hC.drew ?_
      refine lex_val (v := .pointer (some ⟨N, 0, none⟩)) rfl (fun g w' hc => hc) (fun g w' hg hc => by clear hc; go_simp) ?_
      refine lex_val (v := .int .i64 x) rfl (fun g w' hc => hc) (fun g w' hg hc => by obtain ⟨⟨p, q, hT, h1, h2, h3, h4⟩, -⟩ := hc; obtain rfl := h1 (hg 11 (by kernel_rfl)); have c0 := hT.c0; clear hT h1 h2 h3 h4 hg; go_simp) ?_
      simp only [Act.put, List.setIfInBounds_toArray, List.set_cons_zero, List.set_cons_succ]
      refine lex_val (v := .pointer (some ⟨N + 2, 0, none⟩)) rfl (fun g w' hc => hc) (fun g w' hg hc => by clear hc; go_simp) ?_
      refine lex_val (v := .int .i64 u) rfl (fun g w' hc => hc) (fun g w' hg hc => by have c0 := hc.2.1.c0; clear hc; go_simp) ?_
      simp only [Act.put, List.setIfInBounds_toArray, List.set_cons_zero, List.set_cons_succ]
      refine lex_val (v := .int .i64 (max x u)) rfl (fun g w' hc => hc) (fun g w' hg hc => by clear hc; go_simp) ?_
      refine lex_val (v := .pointer (some ⟨N, 1, none⟩)) rfl (fun g w' hc => hc) (fun g w' hg hc => by clear hc; go_simp) ?_
      simp only [Act.put, List.setIfInBounds_toArray, List.set_cons_zero, List.set_cons_succ]
      refine lex_val (v := .int .i64 y) rfl (fun g w' hc => hc) (fun g w' hg hc => by obtain ⟨⟨p, q, hT, h1, h2, h3, h4⟩, -⟩ := hc; obtain rfl := h3 (hg 13 (by kernel_rfl)); have c1 := hT.c1; clear hT h1 h2 h3 h4 hg; go_simp) ?_
      refine lex_val (v := .pointer (some ⟨N + 2, 1, none⟩)) rfl (fun g w' hc => hc) (fun g w' hg hc => by clear hc; go_simp) ?_
      simp only [Act.put, List.setIfInBounds_toArray, List.set_cons_zero, List.set_cons_succ]
      refine lex_val (v := .int .i64 v) rfl (fun g w' hc => hc) (fun g w' hg hc => by have c1 := hc.2.1.c1; clear hc; go_simp) ?_
      refine lex_val (v := .int .i64 (min y v)) rfl (fun g w' hc => hc) (fun g w' hg hc => by clear hc; go_simp) ?_
      simp only [Act.put, List.setIfInBounds_toArray, List.set_cons_zero, List.set_cons_succ]
      refine lex_val (v := .pointer (some ⟨N, 0, none⟩)) rfl (fun g w' hc => hc) (fun g w' hg hc => by clear hc; go_simp) ?_
      refine lex_put rfl (fun g w' _ hc => ?_) ?_
      · obtain ⟨⟨p, q, hT, h1, h2, h3, h4⟩, hU, hR, hB⟩ := hc
        have c0 := hT.c0
        have f0 := hT.free 0
        have l0 := hR.lt
        refine ⟨w'.setCell ⟨N, 0, none⟩ (.int .i64 (max x u)), by clear h1 h2 h3 h4 hU hR hB hT; go_simp, ⟨_, _, hT.set0 _, (fun h => by simp [mark] at h), fun _ => rfl, h3, h4⟩, hU.setCell _ (by simp), hR.setCell _ (by simp), hB.setCell (by simp) _⟩
      simp only [Act.put, List.setIfInBounds_toArray, List.set_cons_zero, List.set_cons_succ]
      refine lex_val (v := .pointer (some ⟨N, 1, none⟩)) rfl (fun g w' hc => hc) (fun g w' hg hc => by clear hc; go_simp) ?_
      refine lex_put rfl (fun g w' _ hc => ?_) ?_
      · obtain ⟨⟨p, q, hT, h1, h2, h3, h4⟩, hU, hR, hB⟩ := hc
        have c1 := hT.c1
        have f1 := hT.free 1
        refine ⟨w'.setCell ⟨N, 1, none⟩ (.int .i64 (min y v)), by clear h1 h2 h3 h4 hU hR hB hT; go_simp, ⟨_, _, hT.set1 _, h1, h2, (fun h => by simp [mark] at h), fun _ => rfl⟩, hU.setCell _ (by simp), hR.setCell _ (by simp), hB.setCell (by simp) _⟩
      simp only [Act.put, List.setIfInBounds_toArray, List.set_cons_zero, List.set_cons_succ]
      refine lex_nil ?_
      rintro w2 ⟨⟨p, q, hT, -, h2, -, h4⟩, -, hR, hB⟩
      obtain rfl := h2 rfl
      obtain rfl := h4 rfl
      clear h2 h4 hC
      go_wp2
      go_roundw
      case rel => exact .inr ⟨by go_num, hT, hR, hB⟩
      case measure => simp [intOf]
    · go_wp2_with (first | ((with_reducible apply load_bnd); exact rfl; exact rfl; exact rfl; focus ((repeat' (first | (with_reducible assumption) | ((with_reducible apply Bnd.new'); simp; done) | (with_reducible apply Bnd.setRow) | (with_reducible apply Bnd.setRow_other) | (with_reducible apply Bnd.alloc) | (simp; done) | omega | (simp; omega))); done)) | ((with_reducible apply store_bnd); exact rfl; exact rfl; exact rfl; exact rfl; exact rfl; exact rfl; focus ((repeat' (first | (with_reducible assumption) | ((with_reducible apply Bnd.new'); simp; done) | (with_reducible apply Bnd.setRow) | (with_reducible apply Bnd.setRow_other) | (with_reducible apply Bnd.alloc) | (simp; done) | omega | (simp; omega))); done)) | ((with_reducible apply beq_step); exact rfl; exact rfl; exact rfl; exact rfl; simp only [Act.put, List.setIfInBounds_toArray, List.set_cons_zero, List.set_cons_succ]) | ((with_reducible apply bneq_step); exact rfl; exact rfl; exact rfl; exact rfl; simp only [Act.put, List.setIfInBounds_toArray, List.set_cons_zero, List.set_cons_succ]))
      exact bodyPost_ret (results_bnd rfl _ _ rfl (by (repeat' (first | (with_reducible assumption) | ((with_reducible apply Bnd.new'); simp; done) | (with_reducible apply Bnd.setRow) | (with_reducible apply Bnd.setRow_other) | (with_reducible apply Bnd.alloc) | (simp; done) | omega | (simp; omega))))) rfl ⟨rfl, by rw [← HN.out]; exact below_setRow hB (by omega) _⟩
end Go.Proofs.Ytadilccdipcmnaa
