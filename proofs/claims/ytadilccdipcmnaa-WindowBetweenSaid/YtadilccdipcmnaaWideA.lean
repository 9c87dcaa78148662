/- The program's numbers of 128 bits: what Mul, Add, Sub, Left, Right, Cmp, length and Len come to. Arguments: words from 0 to 2^64 - 1, any int to move by. -/
import Derived.Test.YtadilccdipcmnaaRefB
namespace Go.Proofs.Ytadilccdipcmnaa
open Go Go.RowKit

/-- Block b is a variable of two words. -/
def Two (w : World) (b : Nat) (x y : Value) : Prop := w.heap[b]? = some (.cells #[x, y] 25 (0, 0))
theorem Two.lt {w : World} {b : Nat} {x y : Value} (h : Two w b x y) : b < w.heap.size := lt_of_block h
theorem Two.below {w w' : World} {B b : Nat} {x y : Value} (h : Two w b x y) (hb : Below B w w') (hlt : b < B) : Two w' b x y := by
  unfold Two
  rw [hb.block b hlt]
  exact h
theorem Two.new (w : World) (x y : Value) : Two (w.alloc (.cells #[x, y] 25)) w.heap.size x y := heap_alloc_new w _
theorem Two.new' {w : World} (x y : Value) {n : Nat} (h : w.heap.size = n) : Two (w.alloc (.cells #[x, y] 25)) n x y := by
  subst h
  exact Two.new w x y
theorem Two.alloc {w : World} {b : Nat} {x y : Value} (h : Two w b x y) (o : Obj) : Two (w.alloc o) b x y := by
  unfold Two
  rw [Below.heap_alloc w o b h.lt]
  exact h
theorem Two.c0 {w : World} {b : Nat} {x y : Value} (h : Two w b x y) : w.cell? ⟨b, 0, none⟩ = some x := by
  rw [cell_of_row w b 0 _ _ _ h]
  rfl
theorem Two.c1 {w : World} {b : Nat} {x y : Value} (h : Two w b x y) : w.cell? ⟨b, 1, none⟩ = some y := by
  rw [cell_of_row w b 1 _ _ _ h]
  rfl
theorem Two.free {w : World} {b : Nat} {x y : Value} (h : Two w b x y) (i : Nat) : w.frozen? ⟨b, i, none⟩ = false := frozen_of_row w b i _ _ h
theorem Two.drewN {w : World} {b : Nat} {x y : Value} (h : Two w b x y) (n : Nat) : Two (w.drewN n) b x y := h
theorem size25 : (Try.prog.info? 25).map (·.size) = some 2 := by kernel_rfl
theorem results_two {fn : Func} {p : Tmp} {x y : Value} {g : Nat} (h : fn.results = #[.cell p 25]) (tmps : Array Value) (w : World) (hp : tmps.getD p undef = .pointer (some ⟨g, 0, none⟩)) (hg : Two w g x y) :
    (results fn tmps).run Try.prog w = .ok (.agg #[x, y]) w :=
  results_cell_row h tmps w g 25 #[x, y] (0, 0) _ hp hg Try.underlying25 rfl size25
theorem run_two (w : World) (g : Nat) {x y : Value} (hg : Two w g x y) : (loadVar 25 ⟨g, 0, none⟩).run Try.prog w = .ok (.agg #[x, y]) w :=
  run_loadVar_row w g 25 25 #[x, y] (0, 0) _ hg Try.underlying25 rfl size25
theorem results_two_tmp {fn : Func} {p t : Tmp} {x y : Value} {g : Nat} (h : fn.results = #[.cell p 25, .tmp t]) (tmps : Array Value) (w : World) (hp : tmps.getD p undef = .pointer (some ⟨g, 0, none⟩)) (hg : Two w g x y) :
    (results fn tmps).run Try.prog w = .ok (.tuple #[.agg #[x, y], tmps.getD t undef]) w := by
  have hp' : tmps[p]?.getD undef = .pointer (some ⟨g, 0, none⟩) := by simpa using hp
  simp [results, h, hp', asAddr, run_two w g hg]

theorem Two.setRow {w : World} {b : Nat} {x y x' y' : Value} (h : Two w b x y) : Two (w.setRow b #[x', y']) b x' y' := setRow_heap w b _ _ _ _ h
theorem Two.setRow_other {w : World} {b c : Nat} {x y : Value} (h : Two w b x y) (cs : Array Value) (hn : b ≠ c) : Two (w.setRow c cs) b x y := by
  unfold Two
  rw [Go.setRow_other w c b cs hn]
  exact h
theorem exec_load_two {o : Oper} {a : Act} {w : World} {p q : Value} {g : Nat} (x : Operand) (ho : o.op = .load 25 x) (hx : a.eval x = .pointer (some ⟨g, 0, none⟩)) (hg : Two w g p q) : (execOp a.eval o).run Try.prog w = .ok (.value (.agg #[p, q])) w := by
  simp [execOp, ho, hx, Instr.loadAt, Instr.sureAddr, run_two w g hg, Result.andThen]
theorem exec_store_two {o : Oper} {a : Act} {w : World} {p q p0 q0 : Value} {g : Nat} (x y : Operand) (ho : o.op = .store 25 x y) (hx : a.eval x = .pointer (some ⟨g, 0, none⟩)) (hy : a.eval y = .agg #[p, q]) (hp : p.oneCell' = true) (hq : q.oneCell' = true) (hg : Two w g p0 q0) :
    (execOp a.eval o).run Try.prog w = .ok .skip (w.setRow g #[p, q]) := by
  simp [execOp, ho, hx, hy, Instr.storeAt, Instr.sureAddr, run_storeVar_row w g 25 25 #[p0, q0] #[p, q] hg size25 rfl (by simp [hp, hq]), Result.andThen]

/-- A field of a number of two words. -/
theorem field_two0 (x y : Value) (w : World) : (Instr.field 25 (.agg #[x, y]) 0).run Try.prog w = .ok x w := by kernel_rfl
theorem field_two1 (x y : Value) (w : World) : (Instr.field 25 (.agg #[x, y]) 1).run Try.prog w = .ok y w := by kernel_rfl

/-! Mul -/
theorem and_low (x : Int) (h0 : 0 ≤ x) (h : x < 18446744073709551616) : bits .and .u64 x 4294967295 = x % 4294967296 := by
  obtain ⟨n, rfl⟩ := Int.eq_ofNat_of_zero_le h0
  have e := u64_and_nat n 4294967295 (by omega) (by decide)
  rw [show ((4294967295 : Nat) : Int) = 4294967295 from rfl] at e
  rw [e, Nat.and_two_pow_sub_one_eq_mod n 32]
  rfl
theorem or_low (x y : Int) (h0 : 0 ≤ x) (h : x < 4294967296) (h0' : 0 ≤ y) (h' : y < 4294967296) : bits .or .u64 (x * 4294967296) y = x * 4294967296 + y := by
  obtain ⟨n, rfl⟩ := Int.eq_ofNat_of_zero_le h0
  obtain ⟨m, rfl⟩ := Int.eq_ofNat_of_zero_le h0'
  have e := u64_or_nat (n * 4294967296) m (by omega) (by omega)
  rw [nat_join 32 (n * 4294967296) m (by omega) (by omega)] at e
  have e2 : ((n * 4294967296 : Nat) : Int) = (n : Int) * 4294967296 := by simp
  rw [e2] at e
  rw [e]
  simp
/-- The four products, and what is carried between them. -/
theorem four_products (a b : Int) (ha : 0 ≤ a) (hb : 0 ≤ b) (ha2 : a < 18446744073709551616) (hb2 : b < 18446744073709551616)
    (least mid other : Int) (h1 : least = a % 4294967296 * (b % 4294967296)) (h2 : mid = a / 4294967296 * (b % 4294967296) + least / 4294967296) (h3 : other = a % 4294967296 * (b / 4294967296) + mid % 4294967296) :
    0 ≤ least ∧ least < 18446744073709551616 ∧ 0 ≤ mid ∧ mid < 18446744073709551616 ∧ 0 ≤ other ∧ other < 18446744073709551616 ∧
      0 ≤ a / 4294967296 * (b / 4294967296) ∧ a / 4294967296 * (b / 4294967296) + mid / 4294967296 + other / 4294967296 = a * b / 18446744073709551616 ∧
      a * b / 18446744073709551616 < 18446744073709551616 ∧ other % 4294967296 * 4294967296 + least % 4294967296 = a * b % 18446744073709551616 := by
  have ea : a = a / 4294967296 * 4294967296 + a % 4294967296 := by omega
  have eb : b = b / 4294967296 * 4294967296 + b % 4294967296 := by omega
  have a1 : 0 ≤ a / 4294967296 ∧ a / 4294967296 ≤ 4294967295 := by omega
  have a0 : 0 ≤ a % 4294967296 ∧ a % 4294967296 ≤ 4294967295 := by omega
  have b1 : 0 ≤ b / 4294967296 ∧ b / 4294967296 ≤ 4294967295 := by omega
  have b0 : 0 ≤ b % 4294967296 ∧ b % 4294967296 ≤ 4294967295 := by omega
  generalize a / 4294967296 = p at *
  generalize a % 4294967296 = q at *
  generalize b / 4294967296 = r at *
  generalize b % 4294967296 = s at *
  have bd : ∀ x y : Int, 0 ≤ x → x ≤ 4294967295 → 0 ≤ y → y ≤ 4294967295 → 0 ≤ x * y ∧ x * y ≤ 18446744065119617025 := fun x y hx hx2 hy hy2 => by
    refine ⟨Int.mul_nonneg hx hy, ?_⟩
    have e1 : x * y ≤ x * 4294967295 := Int.mul_le_mul_of_nonneg_left hy2 hx
    omega
  have c1 := bd q s a0.1 a0.2 b0.1 b0.2
  have c2 := bd p s a1.1 a1.2 b0.1 b0.2
  have c3 := bd q r a0.1 a0.2 b1.1 b1.2
  have c4 := bd p r a1.1 a1.2 b1.1 b1.2
  have em : a * b = p * r * 18446744073709551616 + (p * s + q * r) * 4294967296 + q * s := by
    rw [ea, eb, Int.add_mul, Int.mul_add, Int.mul_add]
    have t1 : p * 4294967296 * (r * 4294967296) = p * r * 18446744073709551616 := by
      rw [Int.mul_assoc, Int.mul_left_comm 4294967296, ← Int.mul_assoc]
      rfl
    have t2 : p * 4294967296 * s = p * s * 4294967296 := by rw [Int.mul_assoc, Int.mul_comm 4294967296, ← Int.mul_assoc]
    have t3 : q * (r * 4294967296) = q * r * 4294967296 := by rw [← Int.mul_assoc]
    rw [t1, t2, t3, Int.add_mul]
    omega
  rw [em]
  generalize p * r = pr at *
  generalize p * s = ps at *
  generalize q * r = qr at *
  generalize q * s = qs at *
  subst h1
  omega
theorem wrap_id (x : Int) (h0 : 0 ≤ x) (h : x < 18446744073709551616) : IntKind.u64.wrap x = x := by
  rw [IntKind.wrap_u64]
  exact Int.emod_eq_of_lt h0 h
set_option maxRecDepth 100000 in
set_option maxHeartbeats 1000000 in
theorem mul_any (a b : Int) (w : World) (ha : 0 ≤ a) (hb : 0 ≤ b) (ha2 : a < M64) (hb2 : b < M64) :
    Calls Try.prog 24 #[.int .u64 a, .int .u64 b] w fun e w' => e = .returned (.agg #[.int .u64 (a * b / M64), .int .u64 (a * b % M64)]) ∧ Below w.heap.size w w' := by
  have hF := hide (four_products a b ha hb ha2 hb2 _ _ _ rfl rfl rfl)
  go_enter Try.func24, Try.ntmps24
  go_wp2
  refine bodyPost_ret (results_two rfl _ _ rfl (Two.new w _ _)) rfl ⟨?_, (Below.refl _ _).alloc (Nat.le_refl _) _⟩
  have F := hF.out
  clear hF
  rw [and_low a ha ha2, and_low b hb hb2]
  have hp : 0 ≤ a / 4294967296 * (b % 4294967296) := Int.mul_nonneg (by omega) (by omega)
  have hq : 0 ≤ a % 4294967296 * (b / 4294967296) := Int.mul_nonneg (by omega) (by omega)
  obtain ⟨f1, f2, f3, f4, f5, f6, f7, f8, f9, f10⟩ := F
  rw [M64_eq, ← f8, ← f10]
  rw [← f8] at f9
  clear f8 f10
  generalize a % 4294967296 * (b % 4294967296) = least at *
  generalize a / 4294967296 * (b % 4294967296) = ps at *
  generalize a % 4294967296 * (b / 4294967296) = qr at *
  generalize a / 4294967296 * (b / 4294967296) = pr at *
  rw [wrap_id least f1 f2, wrap_id ps hp (by omega), wrap_id _ f3 f4, and_low _ f3 f4, and_low _ f1 f2]
  generalize ps + least / 4294967296 = mid at *
  rw [wrap_id qr hq (by omega), wrap_id _ f5 f6]
  generalize qr + mid % 4294967296 = other at *
  rw [wrap_id pr f7 (by omega), wrap_id (pr + mid / 4294967296) (by omega) (by omega), wrap_id _ (by omega) (by omega)]
  rw [show IntKind.u64.wrap (other * 4294967296) = other % 4294967296 * 4294967296 by rw [IntKind.wrap_u64]; omega]
  rw [or_low _ _ (by omega) (by omega) (by omega) (by omega)]

/-! Add, Sub, Cmp: a number of two words -/
def wv (h l : Int) : Int := h * M64 + l
theorem ret_wide {k k' : IntKind} {x y x' y' : Int} {p q : Bool} (h1 : x = x') (h2 : y = y') (h3 : p = q) : Ending.returned (.tuple #[.agg #[.int k x, .int k' y], .bool p]) = .returned (.tuple #[.agg #[.int k x', .int k' y'], .bool q]) := by
  rw [h1, h2, h3]
theorem ret_agg {k k' : IntKind} {x y x' y' : Int} (h1 : x = x') (h2 : y = y') : Ending.returned (.agg #[.int k x, .int k' y]) = .returned (.agg #[.int k x', .int k' y']) := by
  rw [h1, h2]
theorem ret_int {k : IntKind} {x y : Int} (h : x = y) : Ending.returned (.int k x) = .returned (.int k y) := by rw [h]
theorem ret_bool {x y : Bool} (h : x = y) : Ending.returned (.bool x) = .returned (.bool y) := by rw [h]
set_option maxRecDepth 100000 in
set_option maxHeartbeats 1000000 in
theorem wadd_any (a b c d : Int) (w : World) (ha : 0 ≤ a) (hb : 0 ≤ b) (hc : 0 ≤ c) (hd : 0 ≤ d) (ha2 : a < M64) (hb2 : b < M64) (hc2 : c < M64) (hd2 : d < M64) :
    Calls Try.prog 39 #[.agg #[.int .u64 a, .int .u64 b], .agg #[.int .u64 c, .int .u64 d]] w fun e w' => e = .returned (.tuple #[.agg #[.int .u64 ((wv a b + wv c d) % M128 / M64), .int .u64 ((wv a b + wv c d) % M64)], .bool (decide (wv a b + wv c d < M128))]) ∧ Below w.heap.size w w' := by
  have B0 : ∀ o1 o2 o3 o4 : Obj, Below w.heap.size w ((((w.alloc o1).alloc o2).alloc o3).alloc o4) := fun o1 o2 o3 o4 => ((((Below.refl _ _).alloc (Nat.le_refl _) _).alloc (by simp) _).alloc (by simp <;> omega) _).alloc (by simp <;> omega) _
  have hB0 := hide B0
  clear B0
  go_enter Try.func39, Try.ntmps39
  go_wp2
  all_goals
    refine bodyPost_ret (results_two_tmp rfl _ _ rfl ((Two.new' _ _ (by simp)).alloc _)) rfl ⟨ret_wide ?_ ?_ ?_, hB0.out _ _ _ _⟩
    · simp only [IntKind.wrap_u64, wv, M64_eq, M128_eq] at *
      omega
    · simp only [IntKind.wrap_u64, wv, M64_eq] at *
      omega
    · rw [Bool.eq_iff_iff]
      simp
      simp only [IntKind.wrap_u64, wv, M64_eq, M128_eq] at *
      omega
theorem cmpV_lt {x y : Int} (h : x < y) : cmpV x y = -1 := by simp [cmpV, h]
theorem cmpV_gt {x y : Int} (h : y < x) : cmpV x y = 1 := by simp [cmpV, h, Int.not_lt.2 (Int.le_of_lt h)]
theorem cmpV_eq {x y : Int} (h : x = y) : cmpV x y = 0 := by simp [cmpV, h]
set_option maxRecDepth 100000 in
set_option maxHeartbeats 1000000 in
theorem wcmp_any (a b c d : Int) (w : World) (hb : 0 ≤ b) (hd : 0 ≤ d) (hb2 : b < M64) (hd2 : d < M64) :
    Calls Try.prog 61 #[.agg #[.int .u64 a, .int .u64 b], .agg #[.int .u64 c, .int .u64 d]] w fun e w' => e = .returned (.int .i64 (cmpV (wv a b) (wv c d))) ∧ Below w.heap.size w w' := by
  by_cases h1 : a = c
  · have e1 : (a == c) = true := by simpa using h1
    have f1 := hide h1
    clear h1
    go_enter Try.func61, Try.ntmps61
    go_wp2
    go_quiet (fail)
    go_wp2
    go_quiet (fail)
    go_wp2
    all_goals
      have h1 := f1.out
      clear e1 f1
      go_ret
      refine ⟨ret_int ?_, below_drewN (((Below.refl _ _).alloc (Nat.le_refl _) _).alloc (by simp) _) _⟩
      first
        | exact (cmpV_lt (by simp only [wv, M64_eq] at *; omega)).symm
        | exact (cmpV_gt (by simp only [wv, M64_eq] at *; omega)).symm
        | exact (cmpV_eq (by simp only [wv, M64_eq] at *; omega)).symm
  · have e1 : (a == c) = false := by simpa using h1
    have f1 := hide h1
    clear h1
    go_enter Try.func61, Try.ntmps61
    go_wp2
    go_quiet (fail)
    go_wp2
    all_goals
      have h1 := f1.out
      clear e1 f1
      go_ret
      refine ⟨ret_int ?_, below_drewN (((Below.refl _ _).alloc (Nat.le_refl _) _).alloc (by simp) _) _⟩
      first
        | exact (cmpV_lt (by simp only [wv, M64_eq] at *; omega)).symm
        | exact (cmpV_gt (by simp only [wv, M64_eq] at *; omega)).symm
        | exact (cmpV_eq (by simp only [wv, M64_eq] at *; omega)).symm
set_option maxRecDepth 100000 in
set_option maxHeartbeats 2000000 in
theorem wsub_any (a b c d : Int) (w : World) (hb : 0 ≤ b) (hd : 0 ≤ d) (hb2 : b < M64) (hd2 : d < M64) :
    Calls Try.prog 59 #[.agg #[.int .u64 a, .int .u64 b], .agg #[.int .u64 c, .int .u64 d]] w fun e w' => e = .returned (.tuple #[.agg #[.int .u64 ((wv a b - wv c d) % M128 / M64), .int .u64 ((wv a b - wv c d) % M64)], .bool (decide (wv c d ≤ wv a b))]) ∧ Below w.heap.size w w' := by
  by_cases hlt : b < d
  · go_enter Try.func59, Try.ntmps59
    go_wp2
    generalize hW : (((w.alloc (Obj.cells #[Value.int IntKind.u64 a, Value.int IntKind.u64 b] 25)).alloc (Obj.cells #[Value.int IntKind.u64 c, Value.int IntKind.u64 d] 25)).alloc (Obj.cells #[Value.int IntKind.u64 0, Value.int IntKind.u64 0] 25)).alloc (Obj.cells #[Value.int IntKind.u64 (IntKind.u64.wrap (IntKind.u64.wrap (a - c) - 1)), Value.int IntKind.u64 (IntKind.u64.wrap (b - d))] 25) = W
    have tA : Two W w.heap.size (.int .u64 a) (.int .u64 b) := by rw [← hW]; exact (by repeat' (first | (with_reducible assumption) | ((with_reducible apply Two.new'); simp; done) | (with_reducible apply Two.alloc) | (with_reducible apply Two.drew) | (simp; done) | (simp; omega)))
    have tC : Two W (w.heap.size + 1) (.int .u64 c) (.int .u64 d) := by rw [← hW]; exact (by repeat' (first | (with_reducible assumption) | ((with_reducible apply Two.new'); simp; done) | (with_reducible apply Two.alloc) | (with_reducible apply Two.drew) | (simp; done) | (simp; omega)))
    have tR : Two W (w.heap.size + 1 + 1) (.int .u64 0) (.int .u64 0) := by rw [← hW]; exact (by repeat' (first | (with_reducible assumption) | ((with_reducible apply Two.new'); simp; done) | (with_reducible apply Two.alloc) | (with_reducible apply Two.drew) | (simp; done) | (simp; omega)))
    have tO : Two W (w.heap.size + 1 + 1 + 1) (.int .u64 (IntKind.u64.wrap (IntKind.u64.wrap (a - c) - 1))) (.int .u64 (IntKind.u64.wrap (b - d))) := by rw [← hW]; exact (by repeat' (first | (with_reducible assumption) | ((with_reducible apply Two.new'); simp; done) | (with_reducible apply Two.alloc) | (with_reducible apply Two.drew) | (simp; done) | (simp; omega)))
    have tB : Below w.heap.size w W := by rw [← hW]; exact (((((Below.refl _ _).alloc (Nat.le_refl _) _).alloc (by simp) _).alloc (by simp <;> omega) _).alloc (by simp <;> omega) _)
    clear hW
    have eX : IntKind.u64.wrap (IntKind.u64.wrap (a - c) - 1) = (wv a b - wv c d) % M128 / M64 := by
      simp only [IntKind.wrap_u64, wv, M64_eq, M128_eq] at *
      omega
    have eY : IntKind.u64.wrap (b - d) = (wv a b - wv c d) % M64 := by
      simp only [IntKind.wrap_u64, wv, M64_eq] at *
      omega
    have eX' := hide eX
    have eY' := hide eY
    clear eX eY
    generalize IntKind.u64.wrap (b - d) = Y at *
    generalize IntKind.u64.wrap (IntKind.u64.wrap (a - c) - 1) = X at *
    refine wp_region_drawn (fun g w' => Two w' w.heap.size (.int .u64 a) (.int .u64 b) ∧ Two w' (w.heap.size + 1) (.int .u64 c) (.int .u64 d) ∧ Two w' (w.heap.size + 1 + 1 + 1) (.int .u64 X) (.int .u64 Y) ∧ (∃ p q, Two w' (w.heap.size + 1 + 1) p q ∧ (g 5 = true → p = .int .u64 X ∧ q = .int .u64 Y)) ∧ Below w.heap.size w w') mixed (by kernel_rfl) ⟨tA, tC, tO, ⟨_, _, tR, fun h => by cases h⟩, tB.drew⟩ ?_
    refine lex_val rfl (fun g w' hc => hc) (fun g w' _ hc => exec_load_two _ rfl rfl hc.2.2.1) ?_
    refine lex_val rfl (fun g w' hc => hc) (fun g w' _ hc => exec_load_two _ rfl rfl hc.1) ?_
    refine lex_val rfl (fun g w' hc => hc) (fun g w' _ hc => exec_load_two _ rfl rfl hc.2.1) ?_
    simp only [Act.put, List.setIfInBounds_toArray, List.set_cons_zero, List.set_cons_succ]
    refine lex_call (f := 61) (args := #[.agg #[.int .u64 a, .int .u64 b], .agg #[.int .u64 c, .int .u64 d]]) (v := .int .i64 (cmpV (wv a b) (wv c d))) rfl (fun w' => exec_call (by kernel_rfl) rfl rfl) (fun g w' _ hc => ?_) ?_
    · refine (wcmp_any a b c d w' hb hd hb2 hd2).mono ?_
      rintro e w'' ⟨rfl, hb⟩
      obtain ⟨p, q, hf, hg⟩ := hc.2.2.2.1
      exact ⟨rfl, hc.1.below hb hc.1.lt, hc.2.1.below hb hc.2.1.lt, hc.2.2.1.below hb hc.2.2.1.lt, ⟨p, q, hf.below hb hf.lt, hg⟩, hc.2.2.2.2.trans (hb.mono hc.2.2.2.2.size)⟩
    refine lex_val (v := .bool (decide (0 ≤ cmpV (wv a b) (wv c d)))) rfl (fun g w' hc => hc) (fun g w' _ _ => by go_simp) ?_
    simp only [Act.put, List.setIfInBounds_toArray, List.set_cons_zero, List.set_cons_succ]
    refine lex_put rfl (fun g w' _ hc => ?_) ?_
    · obtain ⟨p, q, hf, hg⟩ := hc.2.2.2.1
      exact ⟨_, exec_store_two _ _ rfl rfl rfl rfl rfl hf, hc.1.setRow_other _ (by omega), hc.2.1.setRow_other _ (by omega), hc.2.2.1.setRow_other _ (by omega), ⟨_, _, hf.setRow, fun _ => ⟨rfl, rfl⟩⟩, below_setRow hc.2.2.2.2 (by omega) _⟩
    refine lex_val rfl (fun g w' hc => hc) (fun g w' _ _ => exec_assign _ rfl rfl) ?_
    refine lex_nil ?_
    rintro w' ⟨-, -, -, ⟨p, q, hf, hg⟩, hB⟩
    obtain ⟨rfl, rfl⟩ := hg rfl
    clear hg tA tC tR tO tB
    rw [cmp_geq]
    simp only [Act.put, List.setIfInBounds_toArray, List.set_cons_zero, List.set_cons_succ]
    go_wp2
    exact bodyPost_ret (results_two_tmp rfl _ _ rfl hf) rfl ⟨ret_wide eX'.out eY'.out rfl, hB⟩
  · go_enter Try.func59, Try.ntmps59
    go_wp2
    generalize hW : (((w.alloc (Obj.cells #[Value.int IntKind.u64 a, Value.int IntKind.u64 b] 25)).alloc (Obj.cells #[Value.int IntKind.u64 c, Value.int IntKind.u64 d] 25)).alloc (Obj.cells #[Value.int IntKind.u64 0, Value.int IntKind.u64 0] 25)).alloc (Obj.cells #[Value.int IntKind.u64 (IntKind.u64.wrap (a - c)), Value.int IntKind.u64 (IntKind.u64.wrap (b - d))] 25) = W
    have tA : Two W w.heap.size (.int .u64 a) (.int .u64 b) := by rw [← hW]; exact (by repeat' (first | (with_reducible assumption) | ((with_reducible apply Two.new'); simp; done) | (with_reducible apply Two.alloc) | (with_reducible apply Two.drew) | (simp; done) | (simp; omega)))
    have tC : Two W (w.heap.size + 1) (.int .u64 c) (.int .u64 d) := by rw [← hW]; exact (by repeat' (first | (with_reducible assumption) | ((with_reducible apply Two.new'); simp; done) | (with_reducible apply Two.alloc) | (with_reducible apply Two.drew) | (simp; done) | (simp; omega)))
    have tR : Two W (w.heap.size + 1 + 1) (.int .u64 0) (.int .u64 0) := by rw [← hW]; exact (by repeat' (first | (with_reducible assumption) | ((with_reducible apply Two.new'); simp; done) | (with_reducible apply Two.alloc) | (with_reducible apply Two.drew) | (simp; done) | (simp; omega)))
    have tO : Two W (w.heap.size + 1 + 1 + 1) (.int .u64 (IntKind.u64.wrap (a - c))) (.int .u64 (IntKind.u64.wrap (b - d))) := by rw [← hW]; exact (by repeat' (first | (with_reducible assumption) | ((with_reducible apply Two.new'); simp; done) | (with_reducible apply Two.alloc) | (with_reducible apply Two.drew) | (simp; done) | (simp; omega)))
    have tB : Below w.heap.size w W := by rw [← hW]; exact (((((Below.refl _ _).alloc (Nat.le_refl _) _).alloc (by simp) _).alloc (by simp <;> omega) _).alloc (by simp <;> omega) _)
    clear hW
    have eX : IntKind.u64.wrap (a - c) = (wv a b - wv c d) % M128 / M64 := by
      simp only [IntKind.wrap_u64, wv, M64_eq, M128_eq] at *
      omega
    have eY : IntKind.u64.wrap (b - d) = (wv a b - wv c d) % M64 := by
      simp only [IntKind.wrap_u64, wv, M64_eq] at *
      omega
    have eX' := hide eX
    have eY' := hide eY
    clear eX eY
    generalize IntKind.u64.wrap (b - d) = Y at *
    generalize IntKind.u64.wrap (a - c) = X at *
    refine wp_region_drawn (fun g w' => Two w' w.heap.size (.int .u64 a) (.int .u64 b) ∧ Two w' (w.heap.size + 1) (.int .u64 c) (.int .u64 d) ∧ Two w' (w.heap.size + 1 + 1 + 1) (.int .u64 X) (.int .u64 Y) ∧ (∃ p q, Two w' (w.heap.size + 1 + 1) p q ∧ (g 5 = true → p = .int .u64 X ∧ q = .int .u64 Y)) ∧ Below w.heap.size w w') mixed (by kernel_rfl) ⟨tA, tC, tO, ⟨_, _, tR, fun h => by cases h⟩, tB.drew⟩ ?_
    refine lex_val rfl (fun g w' hc => hc) (fun g w' _ hc => exec_load_two _ rfl rfl hc.2.2.1) ?_
    refine lex_val rfl (fun g w' hc => hc) (fun g w' _ hc => exec_load_two _ rfl rfl hc.1) ?_
    refine lex_val rfl (fun g w' hc => hc) (fun g w' _ hc => exec_load_two _ rfl rfl hc.2.1) ?_
    simp only [Act.put, List.setIfInBounds_toArray, List.set_cons_zero, List.set_cons_succ]
    refine lex_call (f := 61) (args := #[.agg #[.int .u64 a, .int .u64 b], .agg #[.int .u64 c, .int .u64 d]]) (v := .int .i64 (cmpV (wv a b) (wv c d))) rfl (fun w' => exec_call (by kernel_rfl) rfl rfl) (fun g w' _ hc => ?_) ?_
    · refine (wcmp_any a b c d w' hb hd hb2 hd2).mono ?_
      rintro e w'' ⟨rfl, hb⟩
      obtain ⟨p, q, hf, hg⟩ := hc.2.2.2.1
      exact ⟨rfl, hc.1.below hb hc.1.lt, hc.2.1.below hb hc.2.1.lt, hc.2.2.1.below hb hc.2.2.1.lt, ⟨p, q, hf.below hb hf.lt, hg⟩, hc.2.2.2.2.trans (hb.mono hc.2.2.2.2.size)⟩
    refine lex_val (v := .bool (decide (0 ≤ cmpV (wv a b) (wv c d)))) rfl (fun g w' hc => hc) (fun g w' _ _ => by go_simp) ?_
    simp only [Act.put, List.setIfInBounds_toArray, List.set_cons_zero, List.set_cons_succ]
    refine lex_put rfl (fun g w' _ hc => ?_) ?_
    · obtain ⟨p, q, hf, hg⟩ := hc.2.2.2.1
      exact ⟨_, exec_store_two _ _ rfl rfl rfl rfl rfl hf, hc.1.setRow_other _ (by omega), hc.2.1.setRow_other _ (by omega), hc.2.2.1.setRow_other _ (by omega), ⟨_, _, hf.setRow, fun _ => ⟨rfl, rfl⟩⟩, below_setRow hc.2.2.2.2 (by omega) _⟩
    refine lex_val rfl (fun g w' hc => hc) (fun g w' _ _ => exec_assign _ rfl rfl) ?_
    refine lex_nil ?_
    rintro w' ⟨-, -, -, ⟨p, q, hf, hg⟩, hB⟩
    obtain ⟨rfl, rfl⟩ := hg rfl
    clear hg tA tC tR tO tB
    rw [cmp_geq]
    simp only [Act.put, List.setIfInBounds_toArray, List.set_cons_zero, List.set_cons_succ]
    go_wp2
    exact bodyPost_ret (results_two_tmp rfl _ _ rfl hf) rfl ⟨ret_wide eX'.out eY'.out rfl, hB⟩
end Go.Proofs.Ytadilccdipcmnaa
