/- Checked whole numbers: what the program's and the reference's MulDiv, Down, Up, Add, Lower, Upper come to. Arguments: any int64. -/
import Derived.Test.YtadilccdipcmnaaLawF
namespace Go.Proofs.Ytadilccdipcmnaa
open Go Go.RowKit
attribute [local go_sem] field_two0 field_two1

/-- It is an int64. -/
def okI (v : Int) : Prop := -9223372036854775808 ≤ v ∧ v < 9223372036854775808
instance (v : Int) : Decidable (okI v) := by unfold okI; exact inferInstance
/-- A number and that it is one, or nothing. -/
def opt : Option Int → Value
  | some v => .tuple #[.int .i64 v, .bool true]
  | none => .tuple #[.int .i64 0, .bool false]
theorem opt_some (v : Int) : opt (some v) = .tuple #[.int .i64 v, .bool true] := rfl
theorem opt_none : opt none = .tuple #[.int .i64 0, .bool false] := rfl
theorem ret_opt {v : Value} {o : Option Int} (h : opt o = v) : Ending.returned v = .returned (opt o) := by rw [h]
def addF (a b : Int) : Option Int := if okI (a + b) then some (a + b) else none
def upV (x : Int) (up : Bool) (left : Int) : Int := if up = true ∧ 0 < left then x + 1 else x
def mulDivF (a b d : Int) (up : Bool) : Option Int :=
  if a < 0 ∨ b < 0 ∨ d < 1 then none else if upV (a * b / d) up (a * b % d) < 9223372036854775808 then some (upV (a * b / d) up (a * b % d)) else none
def downF (p g : Int) : Int := if p < 0 ∨ g < 1 then 0 else p - p % g
def upF (p g : Int) : Option Int := if p < 0 ∨ g < 1 then none else if p % g = 0 then some p else addF (p - p % g) g

theorem wrap64_id {x : Int} (h : okI x) : wrap64 x = x := by
  unfold wrap64
  unfold okI at h
  omega
theorem wrap_i64_id {x : Int} (h : okI x) : IntKind.i64.wrap x = x := by
  rw [IntKind.wrap_i64]
  unfold okI at h
  omega

/-! Down -/
theorem down_math {p g : Int} (h0 : 0 ≤ p) (hg : 1 ≤ g) : 0 ≤ p % g ∧ p % g < g ∧ p / g * g = p - p % g ∧ p % g ≤ p := by
  have h1 := Int.emod_nonneg p (show g ≠ 0 by omega)
  have h2 := Int.emod_lt_of_pos p (show 0 < g by omega)
  have h3 := Int.mul_ediv_add_emod p g
  rw [Int.mul_comm] at h3
  have h4 : 0 ≤ p / g * g := Int.mul_nonneg (Int.ediv_nonneg h0 (by omega)) (by omega)
  omega
set_option maxRecDepth 100000 in
set_option maxHeartbeats 1000000 in
theorem down_any (p g : Int) (w : World) (hp : okI p) (hg : okI g) :
    Calls Try.prog 52 #[.int .i64 p, .int .i64 g] w fun e w' => e = .returned (.int .i64 (downF p g)) ∧ w' = w := by
  unfold okI at hp hg
  unfold downF
  by_cases h1 : p < 0
  · rw [if_pos (.inl h1)]
    go_enter Try.func52, Try.ntmps52
    go_wp2
    go_ret
    exact ⟨rfl, rfl⟩
  · by_cases h2 : g < 1
    · rw [if_pos (.inr h2)]
      go_enter Try.func52, Try.ntmps52
      go_wp2
      go_ret
      exact ⟨rfl, rfl⟩
    · rw [if_neg (by omega)]
      have H := hide (down_math (p := p) (g := g) (by omega) (by omega))
      have hne : g ≠ 0 := by omega
      go_enter Try.func52, Try.ntmps52
      go_wp2
      go_ret
      exact ⟨by rw [H.out.2.2.1]; exact ret_int (wrap64_id (by have := H.out; unfold okI; omega)), rfl⟩
set_option maxRecDepth 100000 in
set_option maxHeartbeats 1000000 in
theorem refdown_any (p g : Int) (w : World) (hp : okI p) (hg : okI g) :
    Calls Try.prog 53 #[.int .i64 p, .int .i64 g] w fun e w' => e = .returned (.int .i64 (downF p g)) ∧ w' = w := by
  unfold okI at hp hg
  unfold downF
  by_cases h1 : p < 0
  · rw [if_pos (.inl h1)]
    go_enter Try.func53, Try.ntmps53
    go_wp2
    go_ret
    exact ⟨rfl, rfl⟩
  · by_cases h2 : g < 1
    · rw [if_pos (.inr h2)]
      go_enter Try.func53, Try.ntmps53
      go_wp2
      go_ret
      exact ⟨rfl, rfl⟩
    · rw [if_neg (by omega)]
      have H := hide (down_math (p := p) (g := g) (by omega) (by omega))
      have hne : g ≠ 0 := by omega
      go_enter Try.func53, Try.ntmps53
      go_wp2
      go_ret
      exact ⟨ret_int (wrap64_id (by have := H.out; unfold okI; omega)), rfl⟩

/-! MulDiv -/
set_option maxRecDepth 100000 in
set_option maxHeartbeats 1000000 in
theorem signed_pos (n : Int) (w : World) (h0 : 0 ≤ n) :
    Calls Try.prog 115 #[.int .u64 n, .bool false] w fun e w' => e = .returned (opt (if n < 9223372036854775808 then some n else none)) ∧ w' = w := by
  by_cases h1 : n < 9223372036854775808
  · rw [if_pos h1]
    have h2 : ¬ 9223372036854775808 ≤ n := by omega
    go_enter Try.func115, Try.ntmps115
    go_wp2
    go_ret2
    exact ⟨rfl, rfl⟩
  · rw [if_neg h1]
    have h2 : 9223372036854775808 ≤ n := by omega
    go_enter Try.func115, Try.ntmps115
    go_wp2
    go_ret2
    exact ⟨rfl, rfl⟩
/-- What MulDiv's cases come to. -/
theorem muldiv_in {a b d : Int} (ha : 0 ≤ a) (hb : 0 ≤ b) (hd : 1 ≤ d) (up : Bool) :
    mulDivF a b d up = if upV (a * b / d) up (a * b % d) < 9223372036854775808 then some (upV (a * b / d) up (a * b % d)) else none := by
  unfold mulDivF
  rw [if_neg (by omega)]
theorem muldiv_bd {a b d : Int} (ha : 0 ≤ a) (hb : 0 ≤ b) (ha2 : a < 9223372036854775808) (hb2 : b < 9223372036854775808) (hd : 1 ≤ d) (up : Bool) :
    0 ≤ a * b / d ∧ a * b / d < M128 ∧ 0 ≤ a * b % d ∧ a * b % d < d ∧ 0 ≤ upV (a * b / d) up (a * b % d) ∧ upV (a * b / d) up (a * b % d) < M128 ∧ a * b / d + 1 < M128 := by
  have h0 : 0 ≤ a * b := Int.mul_nonneg ha hb
  have h1 : a * b ≤ 9223372036854775807 * 9223372036854775807 := Int.mul_le_mul (by omega) (by omega) hb (by omega)
  have h2 : 0 ≤ a * b / d := Int.ediv_nonneg h0 (by omega)
  have h3 := Int.ediv_le_self d h0
  have h4 := Int.emod_nonneg (a * b) (show d ≠ 0 by omega)
  have h5 := Int.emod_lt_of_pos (a * b) (show 0 < d by omega)
  unfold upV
  rw [M128_eq]
  generalize a * b / d = q at *
  generalize a * b % d = r at *
  refine ⟨h2, by omega, h4, h5, ?_, ?_, by omega⟩ <;> split <;> omega

set_option maxRecDepth 100000 in
set_option maxHeartbeats 2000000 in
theorem muldiv_any (a b d : Int) (up : Bool) (w : World) (ha : okI a) (hb : okI b) (hd : okI d) :
    Calls Try.prog 46 #[.int .i64 a, .int .i64 b, .int .i64 d, .bool up] w fun e w' => e = .returned (opt (mulDivF a b d up)) ∧ Below w.heap.size w w' := by
  unfold okI at ha hb hd
  by_cases h1 : a < 0
  · have e : mulDivF a b d up = none := by unfold mulDivF; rw [if_pos (.inl h1)]
    rw [e]
    clear e
    go_enter Try.func46, Try.ntmps46
    go_wp2
    go_ret2
    exact ⟨rfl, Below.refl _ _⟩
  by_cases h2 : b < 0
  · have e : mulDivF a b d up = none := by unfold mulDivF; rw [if_pos (.inr (.inl h2))]
    rw [e]
    clear e
    go_enter Try.func46, Try.ntmps46
    go_wp2
    go_ret2
    exact ⟨rfl, Below.refl _ _⟩
  by_cases h3 : d < 1
  · have e : mulDivF a b d up = none := by unfold mulDivF; rw [if_pos (.inr (.inr h3))]
    rw [e]
    clear e
    go_enter Try.func46, Try.ntmps46
    go_wp2
    go_ret2
    exact ⟨rfl, Below.refl _ _⟩
  have MM : (9223372036854775808 : Int) < M64 := by decide
  have ha0 : 0 ≤ a := by omega
  have hb0 : 0 ≤ b := by omega
  have hd1 : 1 ≤ d := by omega
  obtain ⟨O, hO⟩ : ∃ O, O = mulDivF a b d up := ⟨_, rfl⟩
  rw [← hO]
  have HO0 := hide (hO.trans (muldiv_in ha0 hb0 hd1 up))
  clear hO
  have HB := hide (muldiv_bd ha0 hb0 ha.2 hb.2 hd1 up)
  obtain ⟨p0, p1⟩ := mul_bd ha0 hb0 (show a < M64 by omega) (show b < M64 by omega)
  have hq : 0 ≤ a * b / M64 ∧ a * b / M64 < M64 ∧ 0 ≤ a * b % M64 ∧ a * b % M64 < M64 := by rw [M64_eq]; rw [M128_eq] at p1; omega
  obtain ⟨q0, q1, q2, q3⟩ := hq
  clear p0 p1
  go_enter Try.func46, Try.ntmps46
  go_wp2_with (fail)
  (with_reducible refine (mul_any a b _ ha0 hb0 (by omega) (by omega)).mono ?_)
  rintro e w1 ⟨rfl, hb1⟩
  have B1 := hide hb1
  clear hb1
  dsimp only
  go_wp2_with (fail)
  (with_reducible refine (wdiv_any (a * b / M64) (a * b % M64) d _ q0 q2 q1 q3 (by omega) (by omega)).mono ?_)
  rintro e w2 ⟨rfl, hb2'⟩
  have B2 := hide (B1.out.trans (hb2'.mono B1.out.size))
  clear hb2' B1 q0 q1 q2 q3
  dsimp only
  rw [wv_split]
  obtain ⟨u0, u1, u2, u3, u4, u5, u6⟩ := HB.out
  clear HB
  by_cases hup : up = true ∧ 0 < a * b % d
  · have e : upV (a * b / d) up (a * b % d) = a * b / d + 1 := by unfold upV; rw [if_pos hup]
    rw [e] at u4 u5
    have HO := hide (HO0.out.trans (by rw [e]))
    clear e HO0
    obtain ⟨rfl, hpos⟩ := hup
    generalize a * b / d = Q at *
    generalize a * b % d = R at *
    have hQ := halves_of u0 u1
    have HQ := hide (show wv (Q / M64) (Q % M64) + wv 0 1 = Q + 1 by rw [wv_split]; rfl)
    have HQm := hide (Int.emod_eq_of_lt u4 u5)
    have hQ2 : 0 ≤ Q / M64 ∧ Q / M64 < M64 := by rw [M64_eq]; rw [M128_eq] at u1; omega
    obtain ⟨hQ3, hQ4⟩ := hQ2
    obtain ⟨hQ5, hQ6, -⟩ := hQ
    go_wp2_with (first | first | ((with_reducible apply load_row); exact rfl; exact rfl; exact rfl; focus ((repeat' (first | (with_reducible assumption) | ((with_reducible apply Row.zero'); simp; done) | ((with_reducible apply Row.new'); simp; done) | (with_reducible apply Row.setRow) | (with_reducible apply Row.setRow_other) | (with_reducible apply Row.alloc) | (with_reducible apply Row.drew) | (simp; done) | omega | (simp; omega))); done)) | ((with_reducible apply store_row); exact rfl; exact rfl; exact rfl; exact rfl; focus ((repeat' (first | (with_reducible assumption) | ((with_reducible apply Row.zero'); simp; done) | ((with_reducible apply Row.new'); simp; done) | (with_reducible apply Row.setRow) | (with_reducible apply Row.setRow_other) | (with_reducible apply Row.alloc) | (with_reducible apply Row.drew) | (simp; done) | omega | (simp; omega))); done)) | ((with_reducible apply load_two); exact rfl; exact rfl; exact rfl; focus ((repeat' (first | (with_reducible assumption) | ((with_reducible apply Two.new'); simp; done) | (with_reducible apply Two.setRow) | (with_reducible apply Two.setRow_other) | (with_reducible apply Two.alloc) | (simp; done) | omega | (simp; omega))); done)) | ((with_reducible apply store_two); exact rfl; exact rfl; exact rfl; exact rfl; exact rfl; exact rfl; focus ((repeat' (first | (with_reducible assumption) | ((with_reducible apply Two.new'); simp; done) | (with_reducible apply Two.setRow) | (with_reducible apply Two.setRow_other) | (with_reducible apply Two.alloc) | (simp; done) | omega | (simp; omega))); done)) | ((with_reducible apply eq_step); exact rfl; exact rfl; exact rfl; exact rfl; simp only [Act.put, List.setIfInBounds_toArray, List.set_cons_zero, List.set_cons_succ]) | ((with_reducible apply neq_step); exact rfl; exact rfl; exact rfl; exact rfl; simp only [Act.put, List.setIfInBounds_toArray, List.set_cons_zero, List.set_cons_succ]) | first | ((with_reducible apply gload_two); exact rfl; exact rfl; exact rfl; focus ((repeat' (first | (with_reducible assumption) | ((with_reducible apply Two.new'); simp; done) | (with_reducible apply Two.setRow) | (with_reducible apply Two.setRow_other) | (with_reducible apply Two.alloc) | (simp; done) | omega | (simp; omega))); done)) | ((with_reducible apply gload_row); exact rfl; exact rfl; exact rfl; focus ((repeat' (first | (with_reducible assumption) | ((with_reducible apply Row.zero'); simp; done) | ((with_reducible apply Row.new'); simp; done) | (with_reducible apply Row.setRow) | (with_reducible apply Row.setRow_other) | (with_reducible apply Row.alloc) | (with_reducible apply Row.drew) | (simp; done) | omega | (simp; omega))); done)) | ((with_reducible apply geq_two); exact rfl; exact rfl; exact rfl; exact rfl; simp only [Act.put, List.setIfInBounds_toArray, List.set_cons_zero, List.set_cons_succ]) | ((with_reducible apply gneq_two); exact rfl; exact rfl; exact rfl; exact rfl; simp only [Act.put, List.setIfInBounds_toArray, List.set_cons_zero, List.set_cons_succ]))
    (with_reducible refine (wadd_any (Q / M64) (Q % M64) 0 1 _ hQ3 hQ5 (by decide) (by decide) hQ4 hQ6 (by decide) (by decide)).mono ?_)
    rintro e w3 ⟨rfl, hb3⟩
    have tQ : Two w3 w2.heap.size (.int .u64 (Q / M64)) (.int .u64 (Q % M64)) := Two.below (by (repeat' (first | (with_reducible assumption) | ((with_reducible apply Two.new'); simp; done) | (with_reducible apply Two.setRow) | (with_reducible apply Two.setRow_other) | (with_reducible apply Two.alloc) | (simp; done) | omega | (simp; omega)))) hb3 (by simp <;> omega)
    have B3 := hide (keep_below hb3 (by (repeat' (first | (with_reducible exact Below.refl _ _) | (with_reducible apply below_setRow) | (with_reducible apply Below.alloc) | (simp; done) | omega | (simp; omega)))) (by simp <;> omega) : Below w2.heap.size w2 w3)
    clear hb3
    dsimp only
    rw [HQ.out, HQm.out]
    have hsz := tQ.lt
    generalize Q + 1 = V at *
    clear HQ HQm
    have tV : Two (w3.setRow w2.heap.size #[.int .u64 (V / M64), .int .u64 (V % M64)]) w2.heap.size (.int .u64 (V / M64)) (.int .u64 (V % M64)) := by (repeat' (first | (with_reducible assumption) | ((with_reducible apply Two.new'); simp; done) | (with_reducible apply Two.setRow) | (with_reducible apply Two.setRow_other) | (with_reducible apply Two.alloc) | (simp; done) | omega | (simp; omega)))
    by_cases hv : V < 9223372036854775808
    · have e1 : V / M64 = 0 := by rw [M64_eq]; omega
      have e2 : V % M64 = V := by rw [M64_eq]; omega
      have c0 := tV.c0.trans (by rw [e1] : _ = some (Value.int .u64 0))
      have c1 := tV.c1.trans (by rw [e2] : _ = some (Value.int .u64 V))
      have hle : ¬ 9223372036854775807 < V := by omega
      have HO2 := hide (HO.out.trans (if_pos hv))
      clear e1 e2 tV HO
      go_wp2_with (first | first | ((with_reducible apply load_row); exact rfl; exact rfl; exact rfl; focus ((repeat' (first | (with_reducible assumption) | ((with_reducible apply Row.zero'); simp; done) | ((with_reducible apply Row.new'); simp; done) | (with_reducible apply Row.setRow) | (with_reducible apply Row.setRow_other) | (with_reducible apply Row.alloc) | (with_reducible apply Row.drew) | (simp; done) | omega | (simp; omega))); done)) | ((with_reducible apply store_row); exact rfl; exact rfl; exact rfl; exact rfl; focus ((repeat' (first | (with_reducible assumption) | ((with_reducible apply Row.zero'); simp; done) | ((with_reducible apply Row.new'); simp; done) | (with_reducible apply Row.setRow) | (with_reducible apply Row.setRow_other) | (with_reducible apply Row.alloc) | (with_reducible apply Row.drew) | (simp; done) | omega | (simp; omega))); done)) | ((with_reducible apply load_two); exact rfl; exact rfl; exact rfl; focus ((repeat' (first | (with_reducible assumption) | ((with_reducible apply Two.new'); simp; done) | (with_reducible apply Two.setRow) | (with_reducible apply Two.setRow_other) | (with_reducible apply Two.alloc) | (simp; done) | omega | (simp; omega))); done)) | ((with_reducible apply store_two); exact rfl; exact rfl; exact rfl; exact rfl; exact rfl; exact rfl; focus ((repeat' (first | (with_reducible assumption) | ((with_reducible apply Two.new'); simp; done) | (with_reducible apply Two.setRow) | (with_reducible apply Two.setRow_other) | (with_reducible apply Two.alloc) | (simp; done) | omega | (simp; omega))); done)) | ((with_reducible apply eq_step); exact rfl; exact rfl; exact rfl; exact rfl; simp only [Act.put, List.setIfInBounds_toArray, List.set_cons_zero, List.set_cons_succ]) | ((with_reducible apply neq_step); exact rfl; exact rfl; exact rfl; exact rfl; simp only [Act.put, List.setIfInBounds_toArray, List.set_cons_zero, List.set_cons_succ]) | first | ((with_reducible apply gload_two); exact rfl; exact rfl; exact rfl; focus ((repeat' (first | (with_reducible assumption) | ((with_reducible apply Two.new'); simp; done) | (with_reducible apply Two.setRow) | (with_reducible apply Two.setRow_other) | (with_reducible apply Two.alloc) | (simp; done) | omega | (simp; omega))); done)) | ((with_reducible apply gload_row); exact rfl; exact rfl; exact rfl; focus ((repeat' (first | (with_reducible assumption) | ((with_reducible apply Row.zero'); simp; done) | ((with_reducible apply Row.new'); simp; done) | (with_reducible apply Row.setRow) | (with_reducible apply Row.setRow_other) | (with_reducible apply Row.alloc) | (with_reducible apply Row.drew) | (simp; done) | omega | (simp; omega))); done)) | ((with_reducible apply geq_two); exact rfl; exact rfl; exact rfl; exact rfl; simp only [Act.put, List.setIfInBounds_toArray, List.set_cons_zero, List.set_cons_succ]) | ((with_reducible apply gneq_two); exact rfl; exact rfl; exact rfl; exact rfl; simp only [Act.put, List.setIfInBounds_toArray, List.set_cons_zero, List.set_cons_succ]))
      go_ret2
      exact ⟨by rw [HO2.out]; rfl, B2.out.trans ((below_setRow B3.out (Nat.le_refl _) _).mono B2.out.size)⟩
    · have HO2 := hide (HO.out.trans (if_neg hv))
      clear HO
      by_cases e1 : V / M64 = 0
      · have c0 := tV.c0.trans (by rw [e1] : _ = some (Value.int .u64 0))
        have c1 := tV.c1
        have hle : 9223372036854775807 < V % M64 := by rw [M64_eq] at *; omega
        clear e1 tV hv
        go_wp2_with (first | first | ((with_reducible apply load_row); exact rfl; exact rfl; exact rfl; focus ((repeat' (first | (with_reducible assumption) | ((with_reducible apply Row.zero'); simp; done) | ((with_reducible apply Row.new'); simp; done) | (with_reducible apply Row.setRow) | (with_reducible apply Row.setRow_other) | (with_reducible apply Row.alloc) | (with_reducible apply Row.drew) | (simp; done) | omega | (simp; omega))); done)) | ((with_reducible apply store_row); exact rfl; exact rfl; exact rfl; exact rfl; focus ((repeat' (first | (with_reducible assumption) | ((with_reducible apply Row.zero'); simp; done) | ((with_reducible apply Row.new'); simp; done) | (with_reducible apply Row.setRow) | (with_reducible apply Row.setRow_other) | (with_reducible apply Row.alloc) | (with_reducible apply Row.drew) | (simp; done) | omega | (simp; omega))); done)) | ((with_reducible apply load_two); exact rfl; exact rfl; exact rfl; focus ((repeat' (first | (with_reducible assumption) | ((with_reducible apply Two.new'); simp; done) | (with_reducible apply Two.setRow) | (with_reducible apply Two.setRow_other) | (with_reducible apply Two.alloc) | (simp; done) | omega | (simp; omega))); done)) | ((with_reducible apply store_two); exact rfl; exact rfl; exact rfl; exact rfl; exact rfl; exact rfl; focus ((repeat' (first | (with_reducible assumption) | ((with_reducible apply Two.new'); simp; done) | (with_reducible apply Two.setRow) | (with_reducible apply Two.setRow_other) | (with_reducible apply Two.alloc) | (simp; done) | omega | (simp; omega))); done)) | ((with_reducible apply eq_step); exact rfl; exact rfl; exact rfl; exact rfl; simp only [Act.put, List.setIfInBounds_toArray, List.set_cons_zero, List.set_cons_succ]) | ((with_reducible apply neq_step); exact rfl; exact rfl; exact rfl; exact rfl; simp only [Act.put, List.setIfInBounds_toArray, List.set_cons_zero, List.set_cons_succ]) | first | ((with_reducible apply gload_two); exact rfl; exact rfl; exact rfl; focus ((repeat' (first | (with_reducible assumption) | ((with_reducible apply Two.new'); simp; done) | (with_reducible apply Two.setRow) | (with_reducible apply Two.setRow_other) | (with_reducible apply Two.alloc) | (simp; done) | omega | (simp; omega))); done)) | ((with_reducible apply gload_row); exact rfl; exact rfl; exact rfl; focus ((repeat' (first | (with_reducible assumption) | ((with_reducible apply Row.zero'); simp; done) | ((with_reducible apply Row.new'); simp; done) | (with_reducible apply Row.setRow) | (with_reducible apply Row.setRow_other) | (with_reducible apply Row.alloc) | (with_reducible apply Row.drew) | (simp; done) | omega | (simp; omega))); done)) | ((with_reducible apply geq_two); exact rfl; exact rfl; exact rfl; exact rfl; simp only [Act.put, List.setIfInBounds_toArray, List.set_cons_zero, List.set_cons_succ]) | ((with_reducible apply gneq_two); exact rfl; exact rfl; exact rfl; exact rfl; simp only [Act.put, List.setIfInBounds_toArray, List.set_cons_zero, List.set_cons_succ]))
        go_ret2
        exact ⟨by rw [HO2.out]; rfl, B2.out.trans ((below_setRow B3.out (Nat.le_refl _) _).mono B2.out.size)⟩
      · have c0 := tV.c0
        have hne : (V / M64 == 0) = false := by simpa using e1
        have hne2 : (V / M64 != 0) = true := by simpa using e1
        clear tV hv
        go_wp2_with (first | first | ((with_reducible apply load_row); exact rfl; exact rfl; exact rfl; focus ((repeat' (first | (with_reducible assumption) | ((with_reducible apply Row.zero'); simp; done) | ((with_reducible apply Row.new'); simp; done) | (with_reducible apply Row.setRow) | (with_reducible apply Row.setRow_other) | (with_reducible apply Row.alloc) | (with_reducible apply Row.drew) | (simp; done) | omega | (simp; omega))); done)) | ((with_reducible apply store_row); exact rfl; exact rfl; exact rfl; exact rfl; focus ((repeat' (first | (with_reducible assumption) | ((with_reducible apply Row.zero'); simp; done) | ((with_reducible apply Row.new'); simp; done) | (with_reducible apply Row.setRow) | (with_reducible apply Row.setRow_other) | (with_reducible apply Row.alloc) | (with_reducible apply Row.drew) | (simp; done) | omega | (simp; omega))); done)) | ((with_reducible apply load_two); exact rfl; exact rfl; exact rfl; focus ((repeat' (first | (with_reducible assumption) | ((with_reducible apply Two.new'); simp; done) | (with_reducible apply Two.setRow) | (with_reducible apply Two.setRow_other) | (with_reducible apply Two.alloc) | (simp; done) | omega | (simp; omega))); done)) | ((with_reducible apply store_two); exact rfl; exact rfl; exact rfl; exact rfl; exact rfl; exact rfl; focus ((repeat' (first | (with_reducible assumption) | ((with_reducible apply Two.new'); simp; done) | (with_reducible apply Two.setRow) | (with_reducible apply Two.setRow_other) | (with_reducible apply Two.alloc) | (simp; done) | omega | (simp; omega))); done)) | ((with_reducible apply eq_step); exact rfl; exact rfl; exact rfl; exact rfl; simp only [Act.put, List.setIfInBounds_toArray, List.set_cons_zero, List.set_cons_succ]) | ((with_reducible apply neq_step); exact rfl; exact rfl; exact rfl; exact rfl; simp only [Act.put, List.setIfInBounds_toArray, List.set_cons_zero, List.set_cons_succ]) | first | ((with_reducible apply gload_two); exact rfl; exact rfl; exact rfl; focus ((repeat' (first | (with_reducible assumption) | ((with_reducible apply Two.new'); simp; done) | (with_reducible apply Two.setRow) | (with_reducible apply Two.setRow_other) | (with_reducible apply Two.alloc) | (simp; done) | omega | (simp; omega))); done)) | ((with_reducible apply gload_row); exact rfl; exact rfl; exact rfl; focus ((repeat' (first | (with_reducible assumption) | ((with_reducible apply Row.zero'); simp; done) | ((with_reducible apply Row.new'); simp; done) | (with_reducible apply Row.setRow) | (with_reducible apply Row.setRow_other) | (with_reducible apply Row.alloc) | (with_reducible apply Row.drew) | (simp; done) | omega | (simp; omega))); done)) | ((with_reducible apply geq_two); exact rfl; exact rfl; exact rfl; exact rfl; simp only [Act.put, List.setIfInBounds_toArray, List.set_cons_zero, List.set_cons_succ]) | ((with_reducible apply gneq_two); exact rfl; exact rfl; exact rfl; exact rfl; simp only [Act.put, List.setIfInBounds_toArray, List.set_cons_zero, List.set_cons_succ]))
        go_ret2
        exact ⟨by rw [HO2.out]; rfl, B2.out.trans ((below_setRow B3.out (Nat.le_refl _) _).mono B2.out.size)⟩
  · have e : upV (a * b / d) up (a * b % d) = a * b / d := by unfold upV; rw [if_neg hup]
    have HO := hide (HO0.out.trans (by rw [e]))
    clear e HO0
    generalize a * b / d = V at *
    generalize a * b % d = R at *
    have B3 : Below w2.heap.size w2 ((w2.alloc (.cells #[.int .u64 0, .int .u64 0] 25)).setRow w2.heap.size #[.int .u64 (V / M64), .int .u64 (V % M64)]) := (by (repeat' (first | (with_reducible exact Below.refl _ _) | (with_reducible apply below_setRow) | (with_reducible apply Below.alloc) | (simp; done) | omega | (simp; omega))))
    have hB3 := hide B3
    clear B3
    cases up
    · clear hup
      have tV : Two ((w2.alloc (.cells #[.int .u64 0, .int .u64 0] 25)).setRow w2.heap.size #[.int .u64 (V / M64), .int .u64 (V % M64)]) w2.heap.size (.int .u64 (V / M64)) (.int .u64 (V % M64)) := by (repeat' (first | (with_reducible assumption) | ((with_reducible apply Two.new'); simp; done) | (with_reducible apply Two.setRow) | (with_reducible apply Two.setRow_other) | (with_reducible apply Two.alloc) | (simp; done) | omega | (simp; omega)))
      by_cases hv : V < 9223372036854775808
      · have e1 : V / M64 = 0 := by rw [M64_eq]; omega
        have e2 : V % M64 = V := by rw [M64_eq]; omega
        have c0 := tV.c0.trans (by rw [e1] : _ = some (Value.int .u64 0))
        have c1 := tV.c1.trans (by rw [e2] : _ = some (Value.int .u64 V))
        have hle : ¬ 9223372036854775807 < V := by omega
        have HO2 := hide (HO.out.trans (if_pos hv))
        clear e1 e2 tV HO
        go_wp2_with (first | first | ((with_reducible apply load_row); exact rfl; exact rfl; exact rfl; focus ((repeat' (first | (with_reducible assumption) | ((with_reducible apply Row.zero'); simp; done) | ((with_reducible apply Row.new'); simp; done) | (with_reducible apply Row.setRow) | (with_reducible apply Row.setRow_other) | (with_reducible apply Row.alloc) | (with_reducible apply Row.drew) | (simp; done) | omega | (simp; omega))); done)) | ((with_reducible apply store_row); exact rfl; exact rfl; exact rfl; exact rfl; focus ((repeat' (first | (with_reducible assumption) | ((with_reducible apply Row.zero'); simp; done) | ((with_reducible apply Row.new'); simp; done) | (with_reducible apply Row.setRow) | (with_reducible apply Row.setRow_other) | (with_reducible apply Row.alloc) | (with_reducible apply Row.drew) | (simp; done) | omega | (simp; omega))); done)) | ((with_reducible apply load_two); exact rfl; exact rfl; exact rfl; focus ((repeat' (first | (with_reducible assumption) | ((with_reducible apply Two.new'); simp; done) | (with_reducible apply Two.setRow) | (with_reducible apply Two.setRow_other) | (with_reducible apply Two.alloc) | (simp; done) | omega | (simp; omega))); done)) | ((with_reducible apply store_two); exact rfl; exact rfl; exact rfl; exact rfl; exact rfl; exact rfl; focus ((repeat' (first | (with_reducible assumption) | ((with_reducible apply Two.new'); simp; done) | (with_reducible apply Two.setRow) | (with_reducible apply Two.setRow_other) | (with_reducible apply Two.alloc) | (simp; done) | omega | (simp; omega))); done)) | ((with_reducible apply eq_step); exact rfl; exact rfl; exact rfl; exact rfl; simp only [Act.put, List.setIfInBounds_toArray, List.set_cons_zero, List.set_cons_succ]) | ((with_reducible apply neq_step); exact rfl; exact rfl; exact rfl; exact rfl; simp only [Act.put, List.setIfInBounds_toArray, List.set_cons_zero, List.set_cons_succ]) | first | ((with_reducible apply gload_two); exact rfl; exact rfl; exact rfl; focus ((repeat' (first | (with_reducible assumption) | ((with_reducible apply Two.new'); simp; done) | (with_reducible apply Two.setRow) | (with_reducible apply Two.setRow_other) | (with_reducible apply Two.alloc) | (simp; done) | omega | (simp; omega))); done)) | ((with_reducible apply gload_row); exact rfl; exact rfl; exact rfl; focus ((repeat' (first | (with_reducible assumption) | ((with_reducible apply Row.zero'); simp; done) | ((with_reducible apply Row.new'); simp; done) | (with_reducible apply Row.setRow) | (with_reducible apply Row.setRow_other) | (with_reducible apply Row.alloc) | (with_reducible apply Row.drew) | (simp; done) | omega | (simp; omega))); done)) | ((with_reducible apply geq_two); exact rfl; exact rfl; exact rfl; exact rfl; simp only [Act.put, List.setIfInBounds_toArray, List.set_cons_zero, List.set_cons_succ]) | ((with_reducible apply gneq_two); exact rfl; exact rfl; exact rfl; exact rfl; simp only [Act.put, List.setIfInBounds_toArray, List.set_cons_zero, List.set_cons_succ]))
        go_ret2
        exact ⟨by rw [HO2.out]; rfl, B2.out.trans (hB3.out.mono B2.out.size)⟩
      · have HO2 := hide (HO.out.trans (if_neg hv))
        clear HO
        by_cases e1 : V / M64 = 0
        · have c0 := tV.c0.trans (by rw [e1] : _ = some (Value.int .u64 0))
          have c1 := tV.c1
          have hle : 9223372036854775807 < V % M64 := by rw [M64_eq] at *; omega
          clear e1 tV hv
          go_wp2_with (first | first | ((with_reducible apply load_row); exact rfl; exact rfl; exact rfl; focus ((repeat' (first | (with_reducible assumption) | ((with_reducible apply Row.zero'); simp; done) | ((with_reducible apply Row.new'); simp; done) | (with_reducible apply Row.setRow) | (with_reducible apply Row.setRow_other) | (with_reducible apply Row.alloc) | (with_reducible apply Row.drew) | (simp; done) | omega | (simp; omega))); done)) | ((with_reducible apply store_row); exact rfl; exact rfl; exact rfl; exact rfl; focus ((repeat' (first | (with_reducible assumption) | ((with_reducible apply Row.zero'); simp; done) | ((with_reducible apply Row.new'); simp; done) | (with_reducible apply Row.setRow) | (with_reducible apply Row.setRow_other) | (with_reducible apply Row.alloc) | (with_reducible apply Row.drew) | (simp; done) | omega | (simp; omega))); done)) | ((with_reducible apply load_two); exact rfl; exact rfl; exact rfl; focus ((repeat' (first | (with_reducible assumption) | ((with_reducible apply Two.new'); simp; done) | (with_reducible apply Two.setRow) | (with_reducible apply Two.setRow_other) | (with_reducible apply Two.alloc) | (simp; done) | omega | (simp; omega))); done)) | ((with_reducible apply store_two); exact rfl; exact rfl; exact rfl; exact rfl; exact rfl; exact rfl; focus ((repeat' (first | (with_reducible assumption) | ((with_reducible apply Two.new'); simp; done) | (with_reducible apply Two.setRow) | (with_reducible apply Two.setRow_other) | (with_reducible apply Two.alloc) | (simp; done) | omega | (simp; omega))); done)) | ((with_reducible apply eq_step); exact rfl; exact rfl; exact rfl; exact rfl; simp only [Act.put, List.setIfInBounds_toArray, List.set_cons_zero, List.set_cons_succ]) | ((with_reducible apply neq_step); exact rfl; exact rfl; exact rfl; exact rfl; simp only [Act.put, List.setIfInBounds_toArray, List.set_cons_zero, List.set_cons_succ]) | first | ((with_reducible apply gload_two); exact rfl; exact rfl; exact rfl; focus ((repeat' (first | (with_reducible assumption) | ((with_reducible apply Two.new'); simp; done) | (with_reducible apply Two.setRow) | (with_reducible apply Two.setRow_other) | (with_reducible apply Two.alloc) | (simp; done) | omega | (simp; omega))); done)) | ((with_reducible apply gload_row); exact rfl; exact rfl; exact rfl; focus ((repeat' (first | (with_reducible assumption) | ((with_reducible apply Row.zero'); simp; done) | ((with_reducible apply Row.new'); simp; done) | (with_reducible apply Row.setRow) | (with_reducible apply Row.setRow_other) | (with_reducible apply Row.alloc) | (with_reducible apply Row.drew) | (simp; done) | omega | (simp; omega))); done)) | ((with_reducible apply geq_two); exact rfl; exact rfl; exact rfl; exact rfl; simp only [Act.put, List.setIfInBounds_toArray, List.set_cons_zero, List.set_cons_succ]) | ((with_reducible apply gneq_two); exact rfl; exact rfl; exact rfl; exact rfl; simp only [Act.put, List.setIfInBounds_toArray, List.set_cons_zero, List.set_cons_succ]))
          go_ret2
          exact ⟨by rw [HO2.out]; rfl, B2.out.trans (hB3.out.mono B2.out.size)⟩
        · have c0 := tV.c0
          have hne : (V / M64 == 0) = false := by simpa using e1
          have hne2 : (V / M64 != 0) = true := by simpa using e1
          clear tV hv
          go_wp2_with (first | first | ((with_reducible apply load_row); exact rfl; exact rfl; exact rfl; focus ((repeat' (first | (with_reducible assumption) | ((with_reducible apply Row.zero'); simp; done) | ((with_reducible apply Row.new'); simp; done) | (with_reducible apply Row.setRow) | (with_reducible apply Row.setRow_other) | (with_reducible apply Row.alloc) | (with_reducible apply Row.drew) | (simp; done) | omega | (simp; omega))); done)) | ((with_reducible apply store_row); exact rfl; exact rfl; exact rfl; exact rfl; focus ((repeat' (first | (with_reducible assumption) | ((with_reducible apply Row.zero'); simp; done) | ((with_reducible apply Row.new'); simp; done) | (with_reducible apply Row.setRow) | (with_reducible apply Row.setRow_other) | (with_reducible apply Row.alloc) | (with_reducible apply Row.drew) | (simp; done) | omega | (simp; omega))); done)) | ((with_reducible apply load_two); exact rfl; exact rfl; exact rfl; focus ((repeat' (first | (with_reducible assumption) | ((with_reducible apply Two.new'); simp; done) | (with_reducible apply Two.setRow) | (with_reducible apply Two.setRow_other) | (with_reducible apply Two.alloc) | (simp; done) | omega | (simp; omega))); done)) | ((with_reducible apply store_two); exact rfl; exact rfl; exact rfl; exact rfl; exact rfl; exact rfl; focus ((repeat' (first | (with_reducible assumption) | ((with_reducible apply Two.new'); simp; done) | (with_reducible apply Two.setRow) | (with_reducible apply Two.setRow_other) | (with_reducible apply Two.alloc) | (simp; done) | omega | (simp; omega))); done)) | ((with_reducible apply eq_step); exact rfl; exact rfl; exact rfl; exact rfl; simp only [Act.put, List.setIfInBounds_toArray, List.set_cons_zero, List.set_cons_succ]) | ((with_reducible apply neq_step); exact rfl; exact rfl; exact rfl; exact rfl; simp only [Act.put, List.setIfInBounds_toArray, List.set_cons_zero, List.set_cons_succ]) | first | ((with_reducible apply gload_two); exact rfl; exact rfl; exact rfl; focus ((repeat' (first | (with_reducible assumption) | ((with_reducible apply Two.new'); simp; done) | (with_reducible apply Two.setRow) | (with_reducible apply Two.setRow_other) | (with_reducible apply Two.alloc) | (simp; done) | omega | (simp; omega))); done)) | ((with_reducible apply gload_row); exact rfl; exact rfl; exact rfl; focus ((repeat' (first | (with_reducible assumption) | ((with_reducible apply Row.zero'); simp; done) | ((with_reducible apply Row.new'); simp; done) | (with_reducible apply Row.setRow) | (with_reducible apply Row.setRow_other) | (with_reducible apply Row.alloc) | (with_reducible apply Row.drew) | (simp; done) | omega | (simp; omega))); done)) | ((with_reducible apply geq_two); exact rfl; exact rfl; exact rfl; exact rfl; simp only [Act.put, List.setIfInBounds_toArray, List.set_cons_zero, List.set_cons_succ]) | ((with_reducible apply gneq_two); exact rfl; exact rfl; exact rfl; exact rfl; simp only [Act.put, List.setIfInBounds_toArray, List.set_cons_zero, List.set_cons_succ]))
          go_ret2
          exact ⟨by rw [HO2.out]; rfl, B2.out.trans (hB3.out.mono B2.out.size)⟩
    · have hpos : ¬ 0 < R := fun h => hup ⟨rfl, h⟩
      clear hup
      have tV : Two ((w2.alloc (.cells #[.int .u64 0, .int .u64 0] 25)).setRow w2.heap.size #[.int .u64 (V / M64), .int .u64 (V % M64)]) w2.heap.size (.int .u64 (V / M64)) (.int .u64 (V % M64)) := by (repeat' (first | (with_reducible assumption) | ((with_reducible apply Two.new'); simp; done) | (with_reducible apply Two.setRow) | (with_reducible apply Two.setRow_other) | (with_reducible apply Two.alloc) | (simp; done) | omega | (simp; omega)))
      by_cases hv : V < 9223372036854775808
      · have e1 : V / M64 = 0 := by rw [M64_eq]; omega
        have e2 : V % M64 = V := by rw [M64_eq]; omega
        have c0 := tV.c0.trans (by rw [e1] : _ = some (Value.int .u64 0))
        have c1 := tV.c1.trans (by rw [e2] : _ = some (Value.int .u64 V))
        have hle : ¬ 9223372036854775807 < V := by omega
        have HO2 := hide (HO.out.trans (if_pos hv))
        clear e1 e2 tV HO
        go_wp2_with (first | first | ((with_reducible apply load_row); exact rfl; exact rfl; exact rfl; focus ((repeat' (first | (with_reducible assumption) | ((with_reducible apply Row.zero'); simp; done) | ((with_reducible apply Row.new'); simp; done) | (with_reducible apply Row.setRow) | (with_reducible apply Row.setRow_other) | (with_reducible apply Row.alloc) | (with_reducible apply Row.drew) | (simp; done) | omega | (simp; omega))); done)) | ((with_reducible apply store_row); exact rfl; exact rfl; exact rfl; exact rfl; focus ((repeat' (first | (with_reducible assumption) | ((with_reducible apply Row.zero'); simp; done) | ((with_reducible apply Row.new'); simp; done) | (with_reducible apply Row.setRow) | (with_reducible apply Row.setRow_other) | (with_reducible apply Row.alloc) | (with_reducible apply Row.drew) | (simp; done) | omega | (simp; omega))); done)) | ((with_reducible apply load_two); exact rfl; exact rfl; exact rfl; focus ((repeat' (first | (with_reducible assumption) | ((with_reducible apply Two.new'); simp; done) | (with_reducible apply Two.setRow) | (with_reducible apply Two.setRow_other) | (with_reducible apply Two.alloc) | (simp; done) | omega | (simp; omega))); done)) | ((with_reducible apply store_two); exact rfl; exact rfl; exact rfl; exact rfl; exact rfl; exact rfl; focus ((repeat' (first | (with_reducible assumption) | ((with_reducible apply Two.new'); simp; done) | (with_reducible apply Two.setRow) | (with_reducible apply Two.setRow_other) | (with_reducible apply Two.alloc) | (simp; done) | omega | (simp; omega))); done)) | ((with_reducible apply eq_step); exact rfl; exact rfl; exact rfl; exact rfl; simp only [Act.put, List.setIfInBounds_toArray, List.set_cons_zero, List.set_cons_succ]) | ((with_reducible apply neq_step); exact rfl; exact rfl; exact rfl; exact rfl; simp only [Act.put, List.setIfInBounds_toArray, List.set_cons_zero, List.set_cons_succ]) | first | ((with_reducible apply gload_two); exact rfl; exact rfl; exact rfl; focus ((repeat' (first | (with_reducible assumption) | ((with_reducible apply Two.new'); simp; done) | (with_reducible apply Two.setRow) | (with_reducible apply Two.setRow_other) | (with_reducible apply Two.alloc) | (simp; done) | omega | (simp; omega))); done)) | ((with_reducible apply gload_row); exact rfl; exact rfl; exact rfl; focus ((repeat' (first | (with_reducible assumption) | ((with_reducible apply Row.zero'); simp; done) | ((with_reducible apply Row.new'); simp; done) | (with_reducible apply Row.setRow) | (with_reducible apply Row.setRow_other) | (with_reducible apply Row.alloc) | (with_reducible apply Row.drew) | (simp; done) | omega | (simp; omega))); done)) | ((with_reducible apply geq_two); exact rfl; exact rfl; exact rfl; exact rfl; simp only [Act.put, List.setIfInBounds_toArray, List.set_cons_zero, List.set_cons_succ]) | ((with_reducible apply gneq_two); exact rfl; exact rfl; exact rfl; exact rfl; simp only [Act.put, List.setIfInBounds_toArray, List.set_cons_zero, List.set_cons_succ]))
        go_ret2
        exact ⟨by rw [HO2.out]; rfl, B2.out.trans (hB3.out.mono B2.out.size)⟩
      · have HO2 := hide (HO.out.trans (if_neg hv))
        clear HO
        by_cases e1 : V / M64 = 0
        · have c0 := tV.c0.trans (by rw [e1] : _ = some (Value.int .u64 0))
          have c1 := tV.c1
          have hle : 9223372036854775807 < V % M64 := by rw [M64_eq] at *; omega
          clear e1 tV hv
          go_wp2_with (first | first | ((with_reducible apply load_row); exact rfl; exact rfl; exact rfl; focus ((repeat' (first | (with_reducible assumption) | ((with_reducible apply Row.zero'); simp; done) | ((with_reducible apply Row.new'); simp; done) | (with_reducible apply Row.setRow) | (with_reducible apply Row.setRow_other) | (with_reducible apply Row.alloc) | (with_reducible apply Row.drew) | (simp; done) | omega | (simp; omega))); done)) | ((with_reducible apply store_row); exact rfl; exact rfl; exact rfl; exact rfl; focus ((repeat' (first | (with_reducible assumption) | ((with_reducible apply Row.zero'); simp; done) | ((with_reducible apply Row.new'); simp; done) | (with_reducible apply Row.setRow) | (with_reducible apply Row.setRow_other) | (with_reducible apply Row.alloc) | (with_reducible apply Row.drew) | (simp; done) | omega | (simp; omega))); done)) | ((with_reducible apply load_two); exact rfl; exact rfl; exact rfl; focus ((repeat' (first | (with_reducible assumption) | ((with_reducible apply Two.new'); simp; done) | (with_reducible apply Two.setRow) | (with_reducible apply Two.setRow_other) | (with_reducible apply Two.alloc) | (simp; done) | omega | (simp; omega))); done)) | ((with_reducible apply store_two); exact rfl; exact rfl; exact rfl; exact rfl; exact rfl; exact rfl; focus ((repeat' (first | (with_reducible assumption) | ((with_reducible apply Two.new'); simp; done) | (with_reducible apply Two.setRow) | (with_reducible apply Two.setRow_other) | (with_reducible apply Two.alloc) | (simp; done) | omega | (simp; omega))); done)) | ((with_reducible apply eq_step); exact rfl; exact rfl; exact rfl; exact rfl; simp only [Act.put, List.setIfInBounds_toArray, List.set_cons_zero, List.set_cons_succ]) | ((with_reducible apply neq_step); exact rfl; exact rfl; exact rfl; exact rfl; simp only [Act.put, List.setIfInBounds_toArray, List.set_cons_zero, List.set_cons_succ]) | first | ((with_reducible apply gload_two); exact rfl; exact rfl; exact rfl; focus ((repeat' (first | (with_reducible assumption) | ((with_reducible apply Two.new'); simp; done) | (with_reducible apply Two.setRow) | (with_reducible apply Two.setRow_other) | (with_reducible apply Two.alloc) | (simp; done) | omega | (simp; omega))); done)) | ((with_reducible apply gload_row); exact rfl; exact rfl; exact rfl; focus ((repeat' (first | (with_reducible assumption) | ((with_reducible apply Row.zero'); simp; done) | ((with_reducible apply Row.new'); simp; done) | (with_reducible apply Row.setRow) | (with_reducible apply Row.setRow_other) | (with_reducible apply Row.alloc) | (with_reducible apply Row.drew) | (simp; done) | omega | (simp; omega))); done)) | ((with_reducible apply geq_two); exact rfl; exact rfl; exact rfl; exact rfl; simp only [Act.put, List.setIfInBounds_toArray, List.set_cons_zero, List.set_cons_succ]) | ((with_reducible apply gneq_two); exact rfl; exact rfl; exact rfl; exact rfl; simp only [Act.put, List.setIfInBounds_toArray, List.set_cons_zero, List.set_cons_succ]))
          go_ret2
          exact ⟨by rw [HO2.out]; rfl, B2.out.trans (hB3.out.mono B2.out.size)⟩
        · have c0 := tV.c0
          have hne : (V / M64 == 0) = false := by simpa using e1
          have hne2 : (V / M64 != 0) = true := by simpa using e1
          clear tV hv
          go_wp2_with (first | first | ((with_reducible apply load_row); exact rfl; exact rfl; exact rfl; focus ((repeat' (first | (with_reducible assumption) | ((with_reducible apply Row.zero'); simp; done) | ((with_reducible apply Row.new'); simp; done) | (with_reducible apply Row.setRow) | (with_reducible apply Row.setRow_other) | (with_reducible apply Row.alloc) | (with_reducible apply Row.drew) | (simp; done) | omega | (simp; omega))); done)) | ((with_reducible apply store_row); exact rfl; exact rfl; exact rfl; exact rfl; focus ((repeat' (first | (with_reducible assumption) | ((with_reducible apply Row.zero'); simp; done) | ((with_reducible apply Row.new'); simp; done) | (with_reducible apply Row.setRow) | (with_reducible apply Row.setRow_other) | (with_reducible apply Row.alloc) | (with_reducible apply Row.drew) | (simp; done) | omega | (simp; omega))); done)) | ((with_reducible apply load_two); exact rfl; exact rfl; exact rfl; focus ((repeat' (first | (with_reducible assumption) | ((with_reducible apply Two.new'); simp; done) | (with_reducible apply Two.setRow) | (with_reducible apply Two.setRow_other) | (with_reducible apply Two.alloc) | (simp; done) | omega | (simp; omega))); done)) | ((with_reducible apply store_two); exact rfl; exact rfl; exact rfl; exact rfl; exact rfl; exact rfl; focus ((repeat' (first | (with_reducible assumption) | ((with_reducible apply Two.new'); simp; done) | (with_reducible apply Two.setRow) | (with_reducible apply Two.setRow_other) | (with_reducible apply Two.alloc) | (simp; done) | omega | (simp; omega))); done)) | ((with_reducible apply eq_step); exact rfl; exact rfl; exact rfl; exact rfl; simp only [Act.put, List.setIfInBounds_toArray, List.set_cons_zero, List.set_cons_succ]) | ((with_reducible apply neq_step); exact rfl; exact rfl; exact rfl; exact rfl; simp only [Act.put, List.setIfInBounds_toArray, List.set_cons_zero, List.set_cons_succ]) | first | ((with_reducible apply gload_two); exact rfl; exact rfl; exact rfl; focus ((repeat' (first | (with_reducible assumption) | ((with_reducible apply Two.new'); simp; done) | (with_reducible apply Two.setRow) | (with_reducible apply Two.setRow_other) | (with_reducible apply Two.alloc) | (simp; done) | omega | (simp; omega))); done)) | ((with_reducible apply gload_row); exact rfl; exact rfl; exact rfl; focus ((repeat' (first | (with_reducible assumption) | ((with_reducible apply Row.zero'); simp; done) | ((with_reducible apply Row.new'); simp; done) | (with_reducible apply Row.setRow) | (with_reducible apply Row.setRow_other) | (with_reducible apply Row.alloc) | (with_reducible apply Row.drew) | (simp; done) | omega | (simp; omega))); done)) | ((with_reducible apply geq_two); exact rfl; exact rfl; exact rfl; exact rfl; simp only [Act.put, List.setIfInBounds_toArray, List.set_cons_zero, List.set_cons_succ]) | ((with_reducible apply gneq_two); exact rfl; exact rfl; exact rfl; exact rfl; simp only [Act.put, List.setIfInBounds_toArray, List.set_cons_zero, List.set_cons_succ]))
          go_ret2
          exact ⟨by rw [HO2.out]; rfl, B2.out.trans (hB3.out.mono B2.out.size)⟩
end Go.Proofs.Ytadilccdipcmnaa
