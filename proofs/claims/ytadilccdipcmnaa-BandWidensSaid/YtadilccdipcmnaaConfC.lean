/- Package config: what a symbol's check comes to. Arguments: any symbol of numbers of 64 bits. -/
import Derived.Test.YtadilccdipcmnaaConfB
import Derived.Test.YtadilccdipcmnaaBandE
namespace Go.Proofs.Ytadilccdipcmnaa
open Go Go.RowKit

/-- Block b is a variable of a rule. -/
def Rul (w : World) (b : Nat) (x y : Value) : Prop := w.heap[b]? = some (.cells #[x, y] 118 (0, 0))
theorem Rul.new' {w : World} (x y : Value) {n : Nat} (h : w.heap.size = n) : Rul (w.alloc (.cells #[x, y] 118)) n x y := by
  subst h
  exact heap_alloc_new w _
theorem Rul.c0 {w : World} {b : Nat} {x y : Value} (h : Rul w b x y) : w.cell? ⟨b, 0, none⟩ = some x := by
  rw [cell_of_row w b 0 _ _ _ h]
  rfl
theorem Rul.c1 {w : World} {b : Nat} {x y : Value} (h : Rul w b x y) : w.cell? ⟨b, 1, none⟩ = some y := by
  rw [cell_of_row w b 1 _ _ _ h]
  rfl
theorem Rul.set {w : World} {b : Nat} {x y x' y' : Value} (h : Rul w b x y) : Rul (w.setRow b #[x', y']) b x' y' := setRow_heap w b _ _ _ _ h
theorem size118 : (Try.prog.info? 118).map (·.size) = some 2 := by kernel_rfl
section
variable {ops : Array Oper} {rest : List Oper} {o : Oper} {a : Act} {w : World} {Q : Exit → Act → World → Prop} {p q p0 q0 : Value} {g : Nat}
theorem store_rul (hgd : o.guard = none) (x y : Operand) (ho : o.op = .store 118 x y) (hx : a.eval x = .pointer (some ⟨g, 0, none⟩)) (hy : a.eval y = .agg #[p, q]) (hp : p.oneCell' = true) (hq : q.oneCell' = true) (hg : Rul w g p0 q0)
    (h : wpList Try.prog ops Q rest (a.put o.dst undef) (w.setRow g #[p, q])) : wpList Try.prog ops Q (o :: rest) a w :=
  wpList_store_row hgd 118 x y ho g #[p, q] hx hy 118 #[p0, q0] hg size118 rfl (by simp [hp, hq]) h
end
abbrev rulF (k g : Nat) : Value := .func (.func k) #[] #[.pointer (some ⟨g, 0, none⟩)]
abbrev rulesA (g : Nat) : Array Value := #[rulF 104 g, .int .i64 9, rulF 106 g, .int .i64 8, rulF 107 g, .int .i64 9, rulF 108 g, .int .i64 9, rulF 109 g, .int .i64 9, rulF 110 g, .int .i64 9, rulF 111 g, .int .i64 11]
def symF (s : Nat → Int) : Int := if r1 s = false then 9 else if r2 s = false then 8 else if r3 s = false then 9 else if r4 s = false then 9 else if r5 s = false then 9 else if r6 s = false then 9 else if r7 s = false then 11 else 0
def Held (s : Nat → Int) (k : Nat) : Prop := (0 < k → r1 s = true) ∧ (1 < k → r2 s = true) ∧ (2 < k → r3 s = true) ∧ (3 < k → r4 s = true) ∧ (4 < k → r5 s = true) ∧ (5 < k → r6 s = true) ∧ (6 < k → r7 s = true)
set_option maxRecDepth 100000 in
set_option maxHeartbeats 4000000 in
theorem first_any (s : Nat → Int) (g b : Nat) (w : World) (hS : Sym w g s) (h0 : okI (s 0)) (h1 : okI (s 1)) (hR : w.heap[b]? = some (.cells (rulesA g) 118 (0, 0))) :
    Calls Try.prog 103 #[.slice (some ⟨b, 0, none⟩) 7 7] w fun e w' => e = .returned (.int .i64 (symF s)) ∧ Below w.heap.size w w' := by
  have lb := lt_of_block hR
  have HS := hide hS
  have HR := hide hR
  have H0 := hide h0
  have H1 := hide h1
  clear hS hR h0 h1
  go_enter Try.func103, Try.ntmps103
  go_wp2
  go_loopw [7] (fun i wr => ∃ k : Nat, k ≤ 7 ∧ i = .int .i64 k ∧ Below w.heap.size w wr ∧ Held s k) (fun i _ => 7 - (intOf i).toNat)
  case atStart => exact ⟨0, by omega, rfl, Below.refl _ _, by unfold Held; simp⟩
  case round =>
    obtain ⟨k, hk, rfl, hB, hH⟩ := hrel
    have HB := hide hB
    have HH := hide hH
    have tS := HS.out.below hB HS.out.lt
    have tR : wr.heap[b]? = some (.cells (rulesA g) 118 (0, 0)) := by rw [hB.block b lb]; exact HR.out
    have lB := hB.size
    clear hB hH
    rcases (show k = 0 ∨ k = 1 ∨ k = 2 ∨ k = 3 ∨ k = 4 ∨ k = 5 ∨ k = 6 ∨ k = 7 from by omega) with rfl | rfl | rfl | rfl | rfl | rfl | rfl | rfl
    · have cA : wr.cell? ⟨b, 0, none⟩ = some (rulF 104 g) := by rw [cell_of_row _ _ _ _ _ _ tR]; rfl
      have cB : wr.cell? ⟨b, 1, none⟩ = some (.int .i64 9) := by rw [cell_of_row _ _ _ _ _ _ tR]; rfl
      have nR : Rul ((wr.alloc (.cells #[.nilFunc, .int .i64 0] 118)).setRow wr.heap.size #[rulF 104 g, .int .i64 9]) wr.heap.size (rulF 104 g) (.int .i64 9) := (Rul.new' _ _ rfl).set
      have nS : Sym ((wr.alloc (.cells #[.nilFunc, .int .i64 0] 118)).setRow wr.heap.size #[rulF 104 g, .int .i64 9]) g s := (tS.alloc _).setRow_other _ (Nat.ne_of_lt tS.lt)
      have d0 := nR.c0
      have NR := hide nR
      have NS := hide nS
      clear nR nS tS tR
      go_wp2_with ((with_reducible apply store_rul); exact rfl; exact rfl; exact rfl; exact rfl; exact rfl; exact rfl; focus (exact Rul.new' _ _ rfl))
      (with_reducible refine (rule1_any s g _ NS.out).mono ?_)
      rintro e w1 ⟨rfl, hb⟩
      have B1 := hide (HB.out.trans ((keep_below hb (by (repeat' (first | (with_reducible exact Below.refl _ _) | (with_reducible apply below_setRow) | (with_reducible apply Below.alloc) | (simp; done) | omega | (simp; omega)))) (by simp <;> omega) : Below wr.heap.size wr w1).mono lB))
      have d1 : w1.cell? ⟨wr.heap.size, 1, none⟩ = some (.int .i64 9) := by rw [hb.cell (by simp)]; exact NR.out.c1
      clear hb d0 cA cB
      dsimp only
      cases hr : r1 s
      · go_wp2
        go_ret
        refine ⟨?_, B1.out⟩
        obtain ⟨h1, h2, h3, h4, h5, h6, h7⟩ := HH.out
        simp at h1 h2 h3 h4 h5 h6 h7
        simp [symF, *]
      · go_wp2
        go_roundw
        case rel =>
          refine ⟨1, by omega, by go_num, B1.out, ?_⟩
          obtain ⟨h1, h2, h3, h4, h5, h6, h7⟩ := HH.out
          unfold Held
          simp at h1 h2 h3 h4 h5 h6 h7 ⊢
          simp [*]
        case measure => simp [intOf]
    · have cA : wr.cell? ⟨b, 2, none⟩ = some (rulF 106 g) := by rw [cell_of_row _ _ _ _ _ _ tR]; rfl
      have cB : wr.cell? ⟨b, 3, none⟩ = some (.int .i64 8) := by rw [cell_of_row _ _ _ _ _ _ tR]; rfl
      have nR : Rul ((wr.alloc (.cells #[.nilFunc, .int .i64 0] 118)).setRow wr.heap.size #[rulF 106 g, .int .i64 8]) wr.heap.size (rulF 106 g) (.int .i64 8) := (Rul.new' _ _ rfl).set
      have nS : Sym ((wr.alloc (.cells #[.nilFunc, .int .i64 0] 118)).setRow wr.heap.size #[rulF 106 g, .int .i64 8]) g s := (tS.alloc _).setRow_other _ (Nat.ne_of_lt tS.lt)
      have d0 := nR.c0
      have NR := hide nR
      have NS := hide nS
      clear nR nS tS tR
      go_wp2_with ((with_reducible apply store_rul); exact rfl; exact rfl; exact rfl; exact rfl; exact rfl; exact rfl; focus (exact Rul.new' _ _ rfl))
      (with_reducible refine (rule2_any s g _ NS.out H0.out H1.out).mono ?_)
      rintro e w1 ⟨rfl, hb⟩
      have B1 := hide (HB.out.trans ((keep_below hb (by (repeat' (first | (with_reducible exact Below.refl _ _) | (with_reducible apply below_setRow) | (with_reducible apply Below.alloc) | (simp; done) | omega | (simp; omega)))) (by simp <;> omega) : Below wr.heap.size wr w1).mono lB))
      have d1 : w1.cell? ⟨wr.heap.size, 1, none⟩ = some (.int .i64 8) := by rw [hb.cell (by simp)]; exact NR.out.c1
      clear hb d0 cA cB
      dsimp only
      cases hr : r2 s
      · go_wp2
        go_ret
        refine ⟨?_, B1.out⟩
        obtain ⟨h1, h2, h3, h4, h5, h6, h7⟩ := HH.out
        simp at h1 h2 h3 h4 h5 h6 h7
        simp [symF, *]
      · go_wp2
        go_roundw
        case rel =>
          refine ⟨2, by omega, by go_num, B1.out, ?_⟩
          obtain ⟨h1, h2, h3, h4, h5, h6, h7⟩ := HH.out
          unfold Held
          simp at h1 h2 h3 h4 h5 h6 h7 ⊢
          simp [*]
        case measure => simp [intOf]
    · have cA : wr.cell? ⟨b, 4, none⟩ = some (rulF 107 g) := by rw [cell_of_row _ _ _ _ _ _ tR]; rfl
      have cB : wr.cell? ⟨b, 5, none⟩ = some (.int .i64 9) := by rw [cell_of_row _ _ _ _ _ _ tR]; rfl
      have nR : Rul ((wr.alloc (.cells #[.nilFunc, .int .i64 0] 118)).setRow wr.heap.size #[rulF 107 g, .int .i64 9]) wr.heap.size (rulF 107 g) (.int .i64 9) := (Rul.new' _ _ rfl).set
      have nS : Sym ((wr.alloc (.cells #[.nilFunc, .int .i64 0] 118)).setRow wr.heap.size #[rulF 107 g, .int .i64 9]) g s := (tS.alloc _).setRow_other _ (Nat.ne_of_lt tS.lt)
      have d0 := nR.c0
      have NR := hide nR
      have NS := hide nS
      clear nR nS tS tR
      go_wp2_with ((with_reducible apply store_rul); exact rfl; exact rfl; exact rfl; exact rfl; exact rfl; exact rfl; focus (exact Rul.new' _ _ rfl))
      (with_reducible refine (rule3_any s g _ NS.out).mono ?_)
      rintro e w1 ⟨rfl, hb⟩
      have B1 := hide (HB.out.trans ((keep_below hb (by (repeat' (first | (with_reducible exact Below.refl _ _) | (with_reducible apply below_setRow) | (with_reducible apply Below.alloc) | (simp; done) | omega | (simp; omega)))) (by simp <;> omega) : Below wr.heap.size wr w1).mono lB))
      have d1 : w1.cell? ⟨wr.heap.size, 1, none⟩ = some (.int .i64 9) := by rw [hb.cell (by simp)]; exact NR.out.c1
      clear hb d0 cA cB
      dsimp only
      cases hr : r3 s
      · go_wp2
        go_ret
        refine ⟨?_, B1.out⟩
        obtain ⟨h1, h2, h3, h4, h5, h6, h7⟩ := HH.out
        simp at h1 h2 h3 h4 h5 h6 h7
        simp [symF, *]
      · go_wp2
        go_roundw
        case rel =>
          refine ⟨3, by omega, by go_num, B1.out, ?_⟩
          obtain ⟨h1, h2, h3, h4, h5, h6, h7⟩ := HH.out
          unfold Held
          simp at h1 h2 h3 h4 h5 h6 h7 ⊢
          simp [*]
        case measure => simp [intOf]
    · have cA : wr.cell? ⟨b, 6, none⟩ = some (rulF 108 g) := by rw [cell_of_row _ _ _ _ _ _ tR]; rfl
      have cB : wr.cell? ⟨b, 7, none⟩ = some (.int .i64 9) := by rw [cell_of_row _ _ _ _ _ _ tR]; rfl
      have nR : Rul ((wr.alloc (.cells #[.nilFunc, .int .i64 0] 118)).setRow wr.heap.size #[rulF 108 g, .int .i64 9]) wr.heap.size (rulF 108 g) (.int .i64 9) := (Rul.new' _ _ rfl).set
      have nS : Sym ((wr.alloc (.cells #[.nilFunc, .int .i64 0] 118)).setRow wr.heap.size #[rulF 108 g, .int .i64 9]) g s := (tS.alloc _).setRow_other _ (Nat.ne_of_lt tS.lt)
      have d0 := nR.c0
      have NR := hide nR
      have NS := hide nS
      clear nR nS tS tR
      go_wp2_with ((with_reducible apply store_rul); exact rfl; exact rfl; exact rfl; exact rfl; exact rfl; exact rfl; focus (exact Rul.new' _ _ rfl))
      (with_reducible refine (rule4_any s g _ NS.out).mono ?_)
      rintro e w1 ⟨rfl, hb⟩
      have B1 := hide (HB.out.trans ((keep_below hb (by (repeat' (first | (with_reducible exact Below.refl _ _) | (with_reducible apply below_setRow) | (with_reducible apply Below.alloc) | (simp; done) | omega | (simp; omega)))) (by simp <;> omega) : Below wr.heap.size wr w1).mono lB))
      have d1 : w1.cell? ⟨wr.heap.size, 1, none⟩ = some (.int .i64 9) := by rw [hb.cell (by simp)]; exact NR.out.c1
      clear hb d0 cA cB
      dsimp only
      cases hr : r4 s
      · go_wp2
        go_ret
        refine ⟨?_, B1.out⟩
        obtain ⟨h1, h2, h3, h4, h5, h6, h7⟩ := HH.out
        simp at h1 h2 h3 h4 h5 h6 h7
        simp [symF, *]
      · go_wp2
        go_roundw
        case rel =>
          refine ⟨4, by omega, by go_num, B1.out, ?_⟩
          obtain ⟨h1, h2, h3, h4, h5, h6, h7⟩ := HH.out
          unfold Held
          simp at h1 h2 h3 h4 h5 h6 h7 ⊢
          simp [*]
        case measure => simp [intOf]
    · have cA : wr.cell? ⟨b, 8, none⟩ = some (rulF 109 g) := by rw [cell_of_row _ _ _ _ _ _ tR]; rfl
      have cB : wr.cell? ⟨b, 9, none⟩ = some (.int .i64 9) := by rw [cell_of_row _ _ _ _ _ _ tR]; rfl
      have nR : Rul ((wr.alloc (.cells #[.nilFunc, .int .i64 0] 118)).setRow wr.heap.size #[rulF 109 g, .int .i64 9]) wr.heap.size (rulF 109 g) (.int .i64 9) := (Rul.new' _ _ rfl).set
      have nS : Sym ((wr.alloc (.cells #[.nilFunc, .int .i64 0] 118)).setRow wr.heap.size #[rulF 109 g, .int .i64 9]) g s := (tS.alloc _).setRow_other _ (Nat.ne_of_lt tS.lt)
      have d0 := nR.c0
      have NR := hide nR
      have NS := hide nS
      clear nR nS tS tR
      go_wp2_with ((with_reducible apply store_rul); exact rfl; exact rfl; exact rfl; exact rfl; exact rfl; exact rfl; focus (exact Rul.new' _ _ rfl))
      (with_reducible refine (rule5_any s g _ NS.out).mono ?_)
      rintro e w1 ⟨rfl, hb⟩
      have B1 := hide (HB.out.trans ((keep_below hb (by (repeat' (first | (with_reducible exact Below.refl _ _) | (with_reducible apply below_setRow) | (with_reducible apply Below.alloc) | (simp; done) | omega | (simp; omega)))) (by simp <;> omega) : Below wr.heap.size wr w1).mono lB))
      have d1 : w1.cell? ⟨wr.heap.size, 1, none⟩ = some (.int .i64 9) := by rw [hb.cell (by simp)]; exact NR.out.c1
      clear hb d0 cA cB
      dsimp only
      cases hr : r5 s
      · go_wp2
        go_ret
        refine ⟨?_, B1.out⟩
        obtain ⟨h1, h2, h3, h4, h5, h6, h7⟩ := HH.out
        simp at h1 h2 h3 h4 h5 h6 h7
        simp [symF, *]
      · go_wp2
        go_roundw
        case rel =>
          refine ⟨5, by omega, by go_num, B1.out, ?_⟩
          obtain ⟨h1, h2, h3, h4, h5, h6, h7⟩ := HH.out
          unfold Held
          simp at h1 h2 h3 h4 h5 h6 h7 ⊢
          simp [*]
        case measure => simp [intOf]
    · have cA : wr.cell? ⟨b, 10, none⟩ = some (rulF 110 g) := by rw [cell_of_row _ _ _ _ _ _ tR]; rfl
      have cB : wr.cell? ⟨b, 11, none⟩ = some (.int .i64 9) := by rw [cell_of_row _ _ _ _ _ _ tR]; rfl
      have nR : Rul ((wr.alloc (.cells #[.nilFunc, .int .i64 0] 118)).setRow wr.heap.size #[rulF 110 g, .int .i64 9]) wr.heap.size (rulF 110 g) (.int .i64 9) := (Rul.new' _ _ rfl).set
      have nS : Sym ((wr.alloc (.cells #[.nilFunc, .int .i64 0] 118)).setRow wr.heap.size #[rulF 110 g, .int .i64 9]) g s := (tS.alloc _).setRow_other _ (Nat.ne_of_lt tS.lt)
      have d0 := nR.c0
      have NR := hide nR
      have NS := hide nS
      clear nR nS tS tR
      go_wp2_with ((with_reducible apply store_rul); exact rfl; exact rfl; exact rfl; exact rfl; exact rfl; exact rfl; focus (exact Rul.new' _ _ rfl))
      (with_reducible refine (rule6_any s g _ NS.out).mono ?_)
      rintro e w1 ⟨rfl, hb⟩
      have B1 := hide (HB.out.trans ((keep_below hb (by (repeat' (first | (with_reducible exact Below.refl _ _) | (with_reducible apply below_setRow) | (with_reducible apply Below.alloc) | (simp; done) | omega | (simp; omega)))) (by simp <;> omega) : Below wr.heap.size wr w1).mono lB))
      have d1 : w1.cell? ⟨wr.heap.size, 1, none⟩ = some (.int .i64 9) := by rw [hb.cell (by simp)]; exact NR.out.c1
      clear hb d0 cA cB
      dsimp only
      cases hr : r6 s
      · go_wp2
        go_ret
        refine ⟨?_, B1.out⟩
        obtain ⟨h1, h2, h3, h4, h5, h6, h7⟩ := HH.out
        simp at h1 h2 h3 h4 h5 h6 h7
        simp [symF, *]
      · go_wp2
        go_roundw
        case rel =>
          refine ⟨6, by omega, by go_num, B1.out, ?_⟩
          obtain ⟨h1, h2, h3, h4, h5, h6, h7⟩ := HH.out
          unfold Held
          simp at h1 h2 h3 h4 h5 h6 h7 ⊢
          simp [*]
        case measure => simp [intOf]
    · have cA : wr.cell? ⟨b, 12, none⟩ = some (rulF 111 g) := by rw [cell_of_row _ _ _ _ _ _ tR]; rfl
      have cB : wr.cell? ⟨b, 13, none⟩ = some (.int .i64 11) := by rw [cell_of_row _ _ _ _ _ _ tR]; rfl
      have nR : Rul ((wr.alloc (.cells #[.nilFunc, .int .i64 0] 118)).setRow wr.heap.size #[rulF 111 g, .int .i64 11]) wr.heap.size (rulF 111 g) (.int .i64 11) := (Rul.new' _ _ rfl).set
      have nS : Sym ((wr.alloc (.cells #[.nilFunc, .int .i64 0] 118)).setRow wr.heap.size #[rulF 111 g, .int .i64 11]) g s := (tS.alloc _).setRow_other _ (Nat.ne_of_lt tS.lt)
      have d0 := nR.c0
      have NR := hide nR
      have NS := hide nS
      clear nR nS tS tR
      go_wp2_with ((with_reducible apply store_rul); exact rfl; exact rfl; exact rfl; exact rfl; exact rfl; exact rfl; focus (exact Rul.new' _ _ rfl))
      (with_reducible refine (rule7_any s g _ NS.out).mono ?_)
      rintro e w1 ⟨rfl, hb⟩
      have B1 := hide (HB.out.trans ((keep_below hb (by (repeat' (first | (with_reducible exact Below.refl _ _) | (with_reducible apply below_setRow) | (with_reducible apply Below.alloc) | (simp; done) | omega | (simp; omega)))) (by simp <;> omega) : Below wr.heap.size wr w1).mono lB))
      have d1 : w1.cell? ⟨wr.heap.size, 1, none⟩ = some (.int .i64 11) := by rw [hb.cell (by simp)]; exact NR.out.c1
      clear hb d0 cA cB
      dsimp only
      cases hr : r7 s
      · go_wp2
        go_ret
        refine ⟨?_, B1.out⟩
        obtain ⟨h1, h2, h3, h4, h5, h6, h7⟩ := HH.out
        simp at h1 h2 h3 h4 h5 h6 h7
        simp [symF, *]
      · go_wp2
        go_roundw
        case rel =>
          refine ⟨7, by omega, by go_num, B1.out, ?_⟩
          obtain ⟨h1, h2, h3, h4, h5, h6, h7⟩ := HH.out
          unfold Held
          simp at h1 h2 h3 h4 h5 h6 h7 ⊢
          simp [*]
        case measure => simp [intOf]
    · go_wp2
      go_ret
      refine ⟨?_, HB.out⟩
      obtain ⟨h1, h2, h3, h4, h5, h6, h7⟩ := HH.out
      simp at h1 h2 h3 h4 h5 h6 h7
      simp [symF, *]
set_option maxRecDepth 100000 in
set_option maxHeartbeats 4000000 in
theorem symbol_any (s : Nat → Int) (w : World) (h0 : okI (s 0)) (h1 : okI (s 1)) :
    Calls Try.prog 40 #[.agg (symA s)] w fun e w' => e = .returned (.int .i64 (symF s)) ∧ Below w.heap.size w w' := by
  have H0 := hide h0
  have H1 := hide h1
  clear h0 h1
  go_enter Try.func40, Try.ntmps40
  go_wp2_with (fail)
  (with_reducible refine (first_any s w.heap.size (w.heap.size + 1) _ ((Sym.new w s).alloc _) H0.out H1.out (by exact heap_alloc_at _ _ (by simp))).mono ?_)
  rintro e w1 ⟨rfl, hb⟩
  have B1 := hide (keep_below hb (by (repeat' (first | (with_reducible exact Below.refl _ _) | (with_reducible apply below_setRow) | (with_reducible apply Below.alloc) | (simp; done) | omega | (simp; omega)))) (by simp <;> omega) : Below w.heap.size w w1)
  clear hb
  dsimp only
  go_wp2
  go_ret
  exact ⟨rfl, B1.out⟩
end Go.Proofs.Ytadilccdipcmnaa
