/- The law WideSums: the walk. -/
import Derived.Test.YtadilccdipcmnaaLawC
namespace Go.Proofs.Ytadilccdipcmnaa
open Go Go.RowKit

section
variable {ops : Array Oper} {rest : List Oper} {o : Oper} {a : Act} {w : World} {Q : Exit → Act → World → Prop} {p q p0 q0 : Value} {g : Nat}
theorem load_two (hgd : o.guard = none) (x : Operand) (ho : o.op = .load 25 x) (hx : a.eval x = .pointer (some ⟨g, 0, none⟩)) (hg : Two w g p q)
    (h : wpList Try.prog ops Q rest (a.put o.dst (.agg #[p, q])) w) : wpList Try.prog ops Q (o :: rest) a w :=
  wpList_load_row hgd 25 x ho g hx 25 #[p, q] (0, 0) _ hg Try.underlying25 rfl size25 h
theorem store_two (hgd : o.guard = none) (x y : Operand) (ho : o.op = .store 25 x y) (hx : a.eval x = .pointer (some ⟨g, 0, none⟩)) (hy : a.eval y = .agg #[p, q]) (hp : p.oneCell' = true) (hq : q.oneCell' = true) (hg : Two w g p0 q0)
    (h : wpList Try.prog ops Q rest (a.put o.dst undef) (w.setRow g #[p, q])) : wpList Try.prog ops Q (o :: rest) a w :=
  wpList_store_row hgd 25 x y ho g #[p, q] hx hy 25 #[p0, q0] hg size25 rfl (by simp [hp, hq]) h
end

theorem keep_below {B : Nat} {w w' w'' : World} (h : Below w'.heap.size w' w'') (h1 : Below B w w') (hB : B ≤ w'.heap.size) : Below B w w'' := h1.trans (h.mono hB)
/-- What WideSums's last region reads. -/
structure SumsC (B : Nat) (w0 : World) (x y s t : Int) (va vb vc vd vs vt vu vz : Value) (p q r u k1 k2 k3 k4 : Nat) (w : World) : Prop where
  X : Row w p (bitF x)
  Y : Row w q (bitF y)
  V : Two w r va vb
  W : Two w u vc vd
  S : Two w k1 vs vt
  T : Row w k2 (bitF s)
  U : Two w k3 vu vz
  Z : Row w k4 (bitF t)
  b : Below B w0 w
section
variable {B : Nat} {w0 : World} {x y s t : Int} {va vb vc vd vs vt vu vz : Value} {p q r u k1 k2 k3 k4 : Nat} {w w' : World}
theorem SumsC.below (c : SumsC B w0 x y s t va vb vc vd vs vt vu vz p q r u k1 k2 k3 k4 w) (hB : B ≤ w.heap.size) (hb : Below w.heap.size w w') : SumsC B w0 x y s t va vb vc vd vs vt vu vz p q r u k1 k2 k3 k4 w' :=
  ⟨c.X.below hb c.X.lt, c.Y.below hb c.Y.lt, c.V.below hb c.V.lt, c.W.below hb c.W.lt, c.S.below hb c.S.lt, c.T.below hb c.T.lt, c.U.below hb c.U.lt, c.Z.below hb c.Z.lt, c.b.trans (hb.mono hB)⟩
end
section
variable {B : Nat} {w0 : World} {x y s t : Int} {va vb vc vd vs vt vu vz : Value} {p q r u k1 k2 k3 k4 : Nat} {w : World}
theorem SumsC.drew (c : SumsC B w0 x y s t va vb vc vd vs vt vu vz p q r u k1 k2 k3 k4 w) : SumsC B w0 x y s t va vb vc vd vs vt vu vz p q r u k1 k2 k3 k4 w.drew :=
  ⟨c.X, c.Y, c.V, c.W, c.S, c.T, c.U, c.Z, c.b.drew⟩
end
theorem halves_low (x : Int) : 0 ≤ x % M64 ∧ x % M64 < M64 ∧ 0 ≤ x % M128 ∧ x % M128 < M128 ∧ wv (x % M128 / M64) (x % M64) = x % M128 := by
  unfold wv
  rw [M64_eq, M128_eq]
  omega
set_option maxRecDepth 100000 in
set_option maxHeartbeats 4000000 in
theorem wideSums_walk (a b c d : Int) (w : World) (ha : 0 ≤ a) (ha2 : a < M64) (hb : 0 ≤ b) (hb2 : b < M64) (hc : 0 ≤ c) (hc2 : c < M64) (hd : 0 ≤ d) (hd2 : d < M64) :
    Calls Try.prog 13 #[.int .u64 a, .int .u64 b, .int .u64 c, .int .u64 d] w fun e w' => e = .returned (.bool true) ∧ Below w.heap.size w w' := by
  obtain ⟨x0, x1⟩ := wv_bd ha hb ha2 hb2
  obtain ⟨y0, y1⟩ := wv_bd hc hd hc2 hd2
  have HS := hide (halves_low (wv a b + wv c d))
  have HD := hide (halves_low (wv a b - wv c d))
  go_enter Try.func13, Try.ntmps13
  go_wp2_with (fail)
  (with_reducible refine (of_any a b _ ha hb ha2 hb2).mono ?_)
  rintro e w1 ⟨rfl, hb1⟩
  have B1 := hide hb1
  clear hb1
  dsimp only
  rw [show a * M64 + b = wv a b from rfl]
  go_wp2_with (fail)
  (with_reducible refine (of_any c d _ hc hd hc2 hd2).mono ?_)
  rintro e w2 ⟨rfl, hb2'⟩
  have B2 := hide (B1.out.trans (hb2'.mono B1.out.size))
  clear hb2' B1
  dsimp only
  rw [show c * M64 + d = wv c d from rfl]
  go_wp2_with (first | ((with_reducible apply load_row); exact rfl; exact rfl; exact rfl; focus ((repeat' (first | (with_reducible assumption) | ((with_reducible apply Row.zero'); simp; done) | ((with_reducible apply Row.new'); simp; done) | (with_reducible apply Row.setRow) | (with_reducible apply Row.setRow_other) | (with_reducible apply Row.alloc) | (with_reducible apply Row.drew) | (simp; done) | omega | (simp; omega))); done)) | ((with_reducible apply store_row); exact rfl; exact rfl; exact rfl; exact rfl; focus ((repeat' (first | (with_reducible assumption) | ((with_reducible apply Row.zero'); simp; done) | ((with_reducible apply Row.new'); simp; done) | (with_reducible apply Row.setRow) | (with_reducible apply Row.setRow_other) | (with_reducible apply Row.alloc) | (with_reducible apply Row.drew) | (simp; done) | omega | (simp; omega))); done)) | ((with_reducible apply load_two); exact rfl; exact rfl; exact rfl; focus ((repeat' (first | (with_reducible assumption) | ((with_reducible apply Two.new'); simp; done) | (with_reducible apply Two.setRow) | (with_reducible apply Two.setRow_other) | (with_reducible apply Two.alloc) | (simp; done) | omega | (simp; omega))); done)) | ((with_reducible apply store_two); exact rfl; exact rfl; exact rfl; exact rfl; exact rfl; exact rfl; focus ((repeat' (first | (with_reducible assumption) | ((with_reducible apply Two.new'); simp; done) | (with_reducible apply Two.setRow) | (with_reducible apply Two.setRow_other) | (with_reducible apply Two.alloc) | (simp; done) | omega | (simp; omega))); done)))
  (with_reducible refine (wadd_any a b c d _ ha hb hc hd ha2 hb2 hc2 hd2).mono ?_)
  rintro e w3 ⟨rfl, hb3⟩
  have rX : Row w3 w2.heap.size (bitF (wv a b)) := Row.below (by (repeat' (first | (with_reducible assumption) | ((with_reducible apply Row.zero'); simp; done) | ((with_reducible apply Row.new'); simp; done) | (with_reducible apply Row.setRow) | (with_reducible apply Row.setRow_other) | (with_reducible apply Row.alloc) | (with_reducible apply Row.drew) | (simp; done) | omega | (simp; omega)))) hb3 (by simp <;> omega)
  have rY : Row w3 (w2.heap.size + 1) (bitF (wv c d)) := Row.below (by (repeat' (first | (with_reducible assumption) | ((with_reducible apply Row.zero'); simp; done) | ((with_reducible apply Row.new'); simp; done) | (with_reducible apply Row.setRow) | (with_reducible apply Row.setRow_other) | (with_reducible apply Row.alloc) | (with_reducible apply Row.drew) | (simp; done) | omega | (simp; omega)))) hb3 (by simp <;> omega)
  have tV : Two w3 (w2.heap.size + 1 + 1) (.int .u64 a) (.int .u64 b) := Two.below (by (repeat' (first | (with_reducible assumption) | ((with_reducible apply Two.new'); simp; done) | (with_reducible apply Two.setRow) | (with_reducible apply Two.setRow_other) | (with_reducible apply Two.alloc) | (simp; done) | omega | (simp; omega)))) hb3 (by simp <;> omega)
  have tW : Two w3 (w2.heap.size + 1 + 1 + 1) (.int .u64 c) (.int .u64 d) := Two.below (by (repeat' (first | (with_reducible assumption) | ((with_reducible apply Two.new'); simp; done) | (with_reducible apply Two.setRow) | (with_reducible apply Two.setRow_other) | (with_reducible apply Two.alloc) | (simp; done) | omega | (simp; omega)))) hb3 (by simp <;> omega)
  have B3 := hide (show Below w2.heap.size w2 w3 from keep_below hb3 (by (repeat' (first | (with_reducible exact Below.refl _ _) | (with_reducible apply below_setRow) | (with_reducible apply Below.alloc) | (simp; done) | omega | (simp; omega)))) (by simp <;> omega))
  clear hb3
  dsimp only
  have HN := hide B2.out.size
  generalize w2.heap.size = N at *
  have lN := tW.lt
  go_wp2_with (first | ((with_reducible apply load_row); exact rfl; exact rfl; exact rfl; focus ((repeat' (first | (with_reducible assumption) | ((with_reducible apply Row.zero'); simp; done) | ((with_reducible apply Row.new'); simp; done) | (with_reducible apply Row.setRow) | (with_reducible apply Row.setRow_other) | (with_reducible apply Row.alloc) | (with_reducible apply Row.drew) | (simp; done) | omega | (simp; omega))); done)) | ((with_reducible apply store_row); exact rfl; exact rfl; exact rfl; exact rfl; focus ((repeat' (first | (with_reducible assumption) | ((with_reducible apply Row.zero'); simp; done) | ((with_reducible apply Row.new'); simp; done) | (with_reducible apply Row.setRow) | (with_reducible apply Row.setRow_other) | (with_reducible apply Row.alloc) | (with_reducible apply Row.drew) | (simp; done) | omega | (simp; omega))); done)) | ((with_reducible apply load_two); exact rfl; exact rfl; exact rfl; focus ((repeat' (first | (with_reducible assumption) | ((with_reducible apply Two.new'); simp; done) | (with_reducible apply Two.setRow) | (with_reducible apply Two.setRow_other) | (with_reducible apply Two.alloc) | (simp; done) | omega | (simp; omega))); done)) | ((with_reducible apply store_two); exact rfl; exact rfl; exact rfl; exact rfl; exact rfl; exact rfl; focus ((repeat' (first | (with_reducible assumption) | ((with_reducible apply Two.new'); simp; done) | (with_reducible apply Two.setRow) | (with_reducible apply Two.setRow_other) | (with_reducible apply Two.alloc) | (simp; done) | omega | (simp; omega))); done)))
  (with_reducible refine (add_any (wv a b) (wv c d) _ x0 x1 y0 y1).mono ?_)
  rintro e w4 ⟨rfl, hb4⟩
  have rX' := rX.below (keep_below hb4 (by (repeat' (first | (with_reducible exact Below.refl _ _) | (with_reducible apply below_setRow) | (with_reducible apply Below.alloc) | (simp; done) | omega | (simp; omega)))) (by simp <;> omega)) rX.lt
  have rY' := rY.below (keep_below hb4 (by (repeat' (first | (with_reducible exact Below.refl _ _) | (with_reducible apply below_setRow) | (with_reducible apply Below.alloc) | (simp; done) | omega | (simp; omega)))) (by simp <;> omega)) rY.lt
  have tV' := tV.below (keep_below hb4 (by (repeat' (first | (with_reducible exact Below.refl _ _) | (with_reducible apply below_setRow) | (with_reducible apply Below.alloc) | (simp; done) | omega | (simp; omega)))) (by simp <;> omega)) tV.lt
  have tW' := tW.below (keep_below hb4 (by (repeat' (first | (with_reducible exact Below.refl _ _) | (with_reducible apply below_setRow) | (with_reducible apply Below.alloc) | (simp; done) | omega | (simp; omega)))) (by simp <;> omega)) tW.lt
  have tS : Two w4 w3.heap.size (.int .u64 (((wv a b + wv c d) % M128) / M64)) (.int .u64 ((wv a b + wv c d) % M64)) := Two.below (by (repeat' (first | (with_reducible assumption) | ((with_reducible apply Two.new'); simp; done) | (with_reducible apply Two.setRow) | (with_reducible apply Two.setRow_other) | (with_reducible apply Two.alloc) | (simp; done) | omega | (simp; omega)))) hb4 (by simp <;> omega)
  have B4 := hide (B3.out.trans ((show Below w3.heap.size w3 w4 from keep_below hb4 (by (repeat' (first | (with_reducible exact Below.refl _ _) | (with_reducible apply below_setRow) | (with_reducible apply Below.alloc) | (simp; done) | omega | (simp; omega)))) (by simp <;> omega)).mono (by have := B3.out.size; omega)))
  clear rX rY tV tW hb4
  have rX := rX'
  have rY := rY'
  have tV := tV'
  have tW := tW'
  clear rX' rY' tV' tW'
  have l3 := tS.lt
  dsimp only
  go_wp2_with (first | ((with_reducible apply load_row); exact rfl; exact rfl; exact rfl; focus ((repeat' (first | (with_reducible assumption) | ((with_reducible apply Row.zero'); simp; done) | ((with_reducible apply Row.new'); simp; done) | (with_reducible apply Row.setRow) | (with_reducible apply Row.setRow_other) | (with_reducible apply Row.alloc) | (with_reducible apply Row.drew) | (simp; done) | omega | (simp; omega))); done)) | ((with_reducible apply store_row); exact rfl; exact rfl; exact rfl; exact rfl; focus ((repeat' (first | (with_reducible assumption) | ((with_reducible apply Row.zero'); simp; done) | ((with_reducible apply Row.new'); simp; done) | (with_reducible apply Row.setRow) | (with_reducible apply Row.setRow_other) | (with_reducible apply Row.alloc) | (with_reducible apply Row.drew) | (simp; done) | omega | (simp; omega))); done)) | ((with_reducible apply load_two); exact rfl; exact rfl; exact rfl; focus ((repeat' (first | (with_reducible assumption) | ((with_reducible apply Two.new'); simp; done) | (with_reducible apply Two.setRow) | (with_reducible apply Two.setRow_other) | (with_reducible apply Two.alloc) | (simp; done) | omega | (simp; omega))); done)) | ((with_reducible apply store_two); exact rfl; exact rfl; exact rfl; exact rfl; exact rfl; exact rfl; focus ((repeat' (first | (with_reducible assumption) | ((with_reducible apply Two.new'); simp; done) | (with_reducible apply Two.setRow) | (with_reducible apply Two.setRow_other) | (with_reducible apply Two.alloc) | (simp; done) | omega | (simp; omega))); done)))
  (with_reducible refine (wsub_any a b c d _ hb hd hb2 hd2).mono ?_)
  rintro e w5 ⟨rfl, hb5⟩
  have rX' := rX.below (keep_below hb5 (by (repeat' (first | (with_reducible exact Below.refl _ _) | (with_reducible apply below_setRow) | (with_reducible apply Below.alloc) | (simp; done) | omega | (simp; omega)))) (by simp <;> omega)) rX.lt
  have rY' := rY.below (keep_below hb5 (by (repeat' (first | (with_reducible exact Below.refl _ _) | (with_reducible apply below_setRow) | (with_reducible apply Below.alloc) | (simp; done) | omega | (simp; omega)))) (by simp <;> omega)) rY.lt
  have tV' := tV.below (keep_below hb5 (by (repeat' (first | (with_reducible exact Below.refl _ _) | (with_reducible apply below_setRow) | (with_reducible apply Below.alloc) | (simp; done) | omega | (simp; omega)))) (by simp <;> omega)) tV.lt
  have tW' := tW.below (keep_below hb5 (by (repeat' (first | (with_reducible exact Below.refl _ _) | (with_reducible apply below_setRow) | (with_reducible apply Below.alloc) | (simp; done) | omega | (simp; omega)))) (by simp <;> omega)) tW.lt
  have tS' := tS.below (keep_below hb5 (by (repeat' (first | (with_reducible exact Below.refl _ _) | (with_reducible apply below_setRow) | (with_reducible apply Below.alloc) | (simp; done) | omega | (simp; omega)))) (by simp <;> omega)) tS.lt
  have rT : Row w5 w4.heap.size (bitF ((wv a b + wv c d) % M128)) := Row.below (by (repeat' (first | (with_reducible assumption) | ((with_reducible apply Row.zero'); simp; done) | ((with_reducible apply Row.new'); simp; done) | (with_reducible apply Row.setRow) | (with_reducible apply Row.setRow_other) | (with_reducible apply Row.alloc) | (with_reducible apply Row.drew) | (simp; done) | omega | (simp; omega)))) hb5 (by simp <;> omega)
  have B5 := hide (B4.out.trans ((show Below w4.heap.size w4 w5 from keep_below hb5 (by (repeat' (first | (with_reducible exact Below.refl _ _) | (with_reducible apply below_setRow) | (with_reducible apply Below.alloc) | (simp; done) | omega | (simp; omega)))) (by simp <;> omega)).mono (by have := B4.out.size; omega)))
  clear rX rY tV tW tS hb5
  have rX := rX'
  have rY := rY'
  have tV := tV'
  have tW := tW'
  have tS := tS'
  clear rX' rY' tV' tW' tS'
  have l4 := rT.lt
  dsimp only
  go_wp2_with (first | ((with_reducible apply load_row); exact rfl; exact rfl; exact rfl; focus ((repeat' (first | (with_reducible assumption) | ((with_reducible apply Row.zero'); simp; done) | ((with_reducible apply Row.new'); simp; done) | (with_reducible apply Row.setRow) | (with_reducible apply Row.setRow_other) | (with_reducible apply Row.alloc) | (with_reducible apply Row.drew) | (simp; done) | omega | (simp; omega))); done)) | ((with_reducible apply store_row); exact rfl; exact rfl; exact rfl; exact rfl; focus ((repeat' (first | (with_reducible assumption) | ((with_reducible apply Row.zero'); simp; done) | ((with_reducible apply Row.new'); simp; done) | (with_reducible apply Row.setRow) | (with_reducible apply Row.setRow_other) | (with_reducible apply Row.alloc) | (with_reducible apply Row.drew) | (simp; done) | omega | (simp; omega))); done)) | ((with_reducible apply load_two); exact rfl; exact rfl; exact rfl; focus ((repeat' (first | (with_reducible assumption) | ((with_reducible apply Two.new'); simp; done) | (with_reducible apply Two.setRow) | (with_reducible apply Two.setRow_other) | (with_reducible apply Two.alloc) | (simp; done) | omega | (simp; omega))); done)) | ((with_reducible apply store_two); exact rfl; exact rfl; exact rfl; exact rfl; exact rfl; exact rfl; focus ((repeat' (first | (with_reducible assumption) | ((with_reducible apply Two.new'); simp; done) | (with_reducible apply Two.setRow) | (with_reducible apply Two.setRow_other) | (with_reducible apply Two.alloc) | (simp; done) | omega | (simp; omega))); done)))
  (with_reducible refine (sub_any (wv a b) (wv c d) _ x0 x1 y0 y1).mono ?_)
  rintro e w6 ⟨rfl, hb6⟩
  have rX' := rX.below (keep_below hb6 (by (repeat' (first | (with_reducible exact Below.refl _ _) | (with_reducible apply below_setRow) | (with_reducible apply Below.alloc) | (simp; done) | omega | (simp; omega)))) (by simp <;> omega)) rX.lt
  have rY' := rY.below (keep_below hb6 (by (repeat' (first | (with_reducible exact Below.refl _ _) | (with_reducible apply below_setRow) | (with_reducible apply Below.alloc) | (simp; done) | omega | (simp; omega)))) (by simp <;> omega)) rY.lt
  have tV' := tV.below (keep_below hb6 (by (repeat' (first | (with_reducible exact Below.refl _ _) | (with_reducible apply below_setRow) | (with_reducible apply Below.alloc) | (simp; done) | omega | (simp; omega)))) (by simp <;> omega)) tV.lt
  have tW' := tW.below (keep_below hb6 (by (repeat' (first | (with_reducible exact Below.refl _ _) | (with_reducible apply below_setRow) | (with_reducible apply Below.alloc) | (simp; done) | omega | (simp; omega)))) (by simp <;> omega)) tW.lt
  have tS' := tS.below (keep_below hb6 (by (repeat' (first | (with_reducible exact Below.refl _ _) | (with_reducible apply below_setRow) | (with_reducible apply Below.alloc) | (simp; done) | omega | (simp; omega)))) (by simp <;> omega)) tS.lt
  have rT' := rT.below (keep_below hb6 (by (repeat' (first | (with_reducible exact Below.refl _ _) | (with_reducible apply below_setRow) | (with_reducible apply Below.alloc) | (simp; done) | omega | (simp; omega)))) (by simp <;> omega)) rT.lt
  have tU : Two w6 w5.heap.size (.int .u64 (((wv a b - wv c d) % M128) / M64)) (.int .u64 ((wv a b - wv c d) % M64)) := Two.below (by (repeat' (first | (with_reducible assumption) | ((with_reducible apply Two.new'); simp; done) | (with_reducible apply Two.setRow) | (with_reducible apply Two.setRow_other) | (with_reducible apply Two.alloc) | (simp; done) | omega | (simp; omega)))) hb6 (by simp <;> omega)
  have B6 := hide (B5.out.trans ((show Below w5.heap.size w5 w6 from keep_below hb6 (by (repeat' (first | (with_reducible exact Below.refl _ _) | (with_reducible apply below_setRow) | (with_reducible apply Below.alloc) | (simp; done) | omega | (simp; omega)))) (by simp <;> omega)).mono (by have := B5.out.size; omega)))
  clear rX rY tV tW tS rT hb6
  have rX := rX'
  have rY := rY'
  have tV := tV'
  have tW := tW'
  have tS := tS'
  have rT := rT'
  clear rX' rY' tV' tW' tS' rT'
  have l5 := tU.lt
  dsimp only
  go_wp2_with (first | ((with_reducible apply load_row); exact rfl; exact rfl; exact rfl; focus ((repeat' (first | (with_reducible assumption) | ((with_reducible apply Row.zero'); simp; done) | ((with_reducible apply Row.new'); simp; done) | (with_reducible apply Row.setRow) | (with_reducible apply Row.setRow_other) | (with_reducible apply Row.alloc) | (with_reducible apply Row.drew) | (simp; done) | omega | (simp; omega))); done)) | ((with_reducible apply store_row); exact rfl; exact rfl; exact rfl; exact rfl; focus ((repeat' (first | (with_reducible assumption) | ((with_reducible apply Row.zero'); simp; done) | ((with_reducible apply Row.new'); simp; done) | (with_reducible apply Row.setRow) | (with_reducible apply Row.setRow_other) | (with_reducible apply Row.alloc) | (with_reducible apply Row.drew) | (simp; done) | omega | (simp; omega))); done)) | ((with_reducible apply load_two); exact rfl; exact rfl; exact rfl; focus ((repeat' (first | (with_reducible assumption) | ((with_reducible apply Two.new'); simp; done) | (with_reducible apply Two.setRow) | (with_reducible apply Two.setRow_other) | (with_reducible apply Two.alloc) | (simp; done) | omega | (simp; omega))); done)) | ((with_reducible apply store_two); exact rfl; exact rfl; exact rfl; exact rfl; exact rfl; exact rfl; focus ((repeat' (first | (with_reducible assumption) | ((with_reducible apply Two.new'); simp; done) | (with_reducible apply Two.setRow) | (with_reducible apply Two.setRow_other) | (with_reducible apply Two.alloc) | (simp; done) | omega | (simp; omega))); done)))
  have hC : SumsC w6.heap.size w6 (wv a b) (wv c d) ((wv a b + wv c d) % M128) ((wv a b - wv c d) % M128) (.int .u64 a) (.int .u64 b) (.int .u64 c) (.int .u64 d) (.int .u64 (((wv a b + wv c d) % M128) / M64)) (.int .u64 ((wv a b + wv c d) % M64)) (.int .u64 (((wv a b - wv c d) % M128) / M64)) (.int .u64 ((wv a b - wv c d) % M64)) N (N + 1) (N + 1 + 1) (N + 1 + 1 + 1) w3.heap.size w4.heap.size w5.heap.size w6.heap.size ((w6.alloc (.cells Try.zeroCells28 28)).setRow w6.heap.size (bf (bitF ((wv a b - wv c d) % M128)))) :=
    ⟨(by (repeat' (first | (with_reducible assumption) | ((with_reducible apply Row.zero'); simp; done) | ((with_reducible apply Row.new'); simp; done) | (with_reducible apply Row.setRow) | (with_reducible apply Row.setRow_other) | (with_reducible apply Row.alloc) | (with_reducible apply Row.drew) | (simp; done) | omega | (simp; omega)))), (by (repeat' (first | (with_reducible assumption) | ((with_reducible apply Row.zero'); simp; done) | ((with_reducible apply Row.new'); simp; done) | (with_reducible apply Row.setRow) | (with_reducible apply Row.setRow_other) | (with_reducible apply Row.alloc) | (with_reducible apply Row.drew) | (simp; done) | omega | (simp; omega)))), by (repeat' (first | (with_reducible assumption) | ((with_reducible apply Two.new'); simp; done) | (with_reducible apply Two.setRow) | (with_reducible apply Two.setRow_other) | (with_reducible apply Two.alloc) | (simp; done) | omega | (simp; omega))), by (repeat' (first | (with_reducible assumption) | ((with_reducible apply Two.new'); simp; done) | (with_reducible apply Two.setRow) | (with_reducible apply Two.setRow_other) | (with_reducible apply Two.alloc) | (simp; done) | omega | (simp; omega))), by (repeat' (first | (with_reducible assumption) | ((with_reducible apply Two.new'); simp; done) | (with_reducible apply Two.setRow) | (with_reducible apply Two.setRow_other) | (with_reducible apply Two.alloc) | (simp; done) | omega | (simp; omega))), (by (repeat' (first | (with_reducible assumption) | ((with_reducible apply Row.zero'); simp; done) | ((with_reducible apply Row.new'); simp; done) | (with_reducible apply Row.setRow) | (with_reducible apply Row.setRow_other) | (with_reducible apply Row.alloc) | (with_reducible apply Row.drew) | (simp; done) | omega | (simp; omega)))), by (repeat' (first | (with_reducible assumption) | ((with_reducible apply Two.new'); simp; done) | (with_reducible apply Two.setRow) | (with_reducible apply Two.setRow_other) | (with_reducible apply Two.alloc) | (simp; done) | omega | (simp; omega))), (by (repeat' (first | (with_reducible assumption) | ((with_reducible apply Row.zero'); simp; done) | ((with_reducible apply Row.new'); simp; done) | (with_reducible apply Row.setRow) | (with_reducible apply Row.setRow_other) | (with_reducible apply Row.alloc) | (with_reducible apply Row.drew) | (simp; done) | omega | (simp; omega)))), (by (repeat' (first | (with_reducible exact Below.refl _ _) | (with_reducible apply below_setRow) | (with_reducible apply Below.alloc) | (simp; done) | omega | (simp; omega))))⟩
  clear rX rY tV tW tS rT tU
  refine wp_region_drawn (fun _ w' => SumsC w6.heap.size w6 (wv a b) (wv c d) ((wv a b + wv c d) % M128) ((wv a b - wv c d) % M128) (.int .u64 a) (.int .u64 b) (.int .u64 c) (.int .u64 d) (.int .u64 (((wv a b + wv c d) % M128) / M64)) (.int .u64 ((wv a b + wv c d) % M64)) (.int .u64 (((wv a b - wv c d) % M128) / M64)) (.int .u64 ((wv a b - wv c d) % M64)) N (N + 1) (N + 1 + 1) (N + 1 + 1 + 1) w3.heap.size w4.heap.size w5.heap.size w6.heap.size w') mixed (by kernel_rfl) hC.drew ?_
  refine lex_val rfl (fun g w' hc => hc) (fun g w' _ hc => exec_load_two _ rfl rfl (hc.S)) ?_
  refine lex_val rfl (fun g w' hc => hc) (fun g w' _ hc => exec_load_row _ rfl rfl (hc.T)) ?_
  refine lex_call (f := 23) (args := #[.agg #[.int .u64 (((wv a b + wv c d) % M128) / M64), .int .u64 ((wv a b + wv c d) % M64)], .agg (bf (bitF ((wv a b + wv c d) % M128)))]) (v := .bool true) rfl (fun w' => exec_call (by kernel_rfl) rfl rfl) (fun g w' _ hc => ?_) ?_
  · refine (is_any (((wv a b + wv c d) % M128) / M64) ((wv a b + wv c d) % M64) ((wv a b + wv c d) % M128) w' HS.out.1 HS.out.2.1 HS.out.2.2.1 HS.out.2.2.2.1).mono ?_
    rintro e w'' ⟨rfl, hb⟩
    exact ⟨by rw [decide_eq_true HS.out.2.2.2.2], hc.below hc.b.size hb⟩
  simp only [Act.put, List.setIfInBounds_toArray, List.set_cons_zero, List.set_cons_succ]
  refine lex_val rfl (fun g w' hc => hc) (fun g w' _ _ => exec_move _ rfl rfl) ?_
  refine lex_val rfl (fun g w' hc => hc) (fun g w' _ _ => exec_move _ rfl rfl) ?_
  refine lex_val rfl (fun g w' hc => hc) (fun g w' _ _ => exec_move _ rfl rfl) ?_
  simp only [Act.put, List.setIfInBounds_toArray, List.set_cons_zero, List.set_cons_succ]
  refine lex_val (v := .bool true) rfl (fun g w' hc => hc) (fun g w' _ hc => by clear hc; go_simp) ?_
  refine lex_val (v := .bool true) rfl (fun g w' hc => hc) (fun g w' _ _ => exec_pick (b := true) _ _ _ rfl rfl rfl) ?_
  refine lex_val rfl (fun g w' hc => hc) (fun g w' _ _ => exec_move _ rfl rfl) ?_
  simp only [Act.put, List.setIfInBounds_toArray, List.set_cons_zero, List.set_cons_succ]
  refine lex_val rfl (fun g w' hc => hc) (fun g w' _ hc => exec_load_two _ rfl rfl (hc.U)) ?_
  refine lex_val rfl (fun g w' hc => hc) (fun g w' _ hc => exec_load_row _ rfl rfl (hc.Z)) ?_
  refine lex_call (f := 23) (args := #[.agg #[.int .u64 (((wv a b - wv c d) % M128) / M64), .int .u64 ((wv a b - wv c d) % M64)], .agg (bf (bitF ((wv a b - wv c d) % M128)))]) (v := .bool true) rfl (fun w' => exec_call (by kernel_rfl) rfl rfl) (fun g w' _ hc => ?_) ?_
  · refine (is_any (((wv a b - wv c d) % M128) / M64) ((wv a b - wv c d) % M64) ((wv a b - wv c d) % M128) w' HD.out.1 HD.out.2.1 HD.out.2.2.1 HD.out.2.2.2.1).mono ?_
    rintro e w'' ⟨rfl, hb⟩
    exact ⟨by rw [decide_eq_true HD.out.2.2.2.2], hc.below hc.b.size hb⟩
  simp only [Act.put, List.setIfInBounds_toArray, List.set_cons_zero, List.set_cons_succ]
  refine lex_val (v := .bool true) rfl (fun g w' hc => hc) (fun g w' _ _ => exec_pick (b := true) _ _ _ rfl rfl rfl) ?_
  refine lex_val rfl (fun g w' hc => hc) (fun g w' _ _ => exec_move _ rfl rfl) ?_
  refine lex_val rfl (fun g w' hc => hc) (fun g w' _ _ => exec_move _ rfl rfl) ?_
  simp only [Act.put, List.setIfInBounds_toArray, List.set_cons_zero, List.set_cons_succ]
  refine lex_val rfl (fun g w' hc => hc) (fun g w' _ _ => exec_move _ rfl rfl) ?_
  refine lex_val (v := .bool true) rfl (fun g w' hc => hc) (fun g w' _ hc => by clear hc; go_simp) ?_
  refine lex_val (v := .bool true) rfl (fun g w' hc => hc) (fun g w' _ _ => exec_pick (b := true) _ _ _ rfl rfl rfl) ?_
  simp only [Act.put, List.setIfInBounds_toArray, List.set_cons_zero, List.set_cons_succ]
  refine lex_val rfl (fun g w' hc => hc) (fun g w' _ _ => exec_move _ rfl rfl) ?_
  refine lex_val rfl (fun g w' hc => hc) (fun g w' _ hc => exec_load_two _ rfl rfl (hc.V)) ?_
  refine lex_val rfl (fun g w' hc => hc) (fun g w' _ hc => exec_load_two _ rfl rfl (hc.W)) ?_
  simp only [Act.put, List.setIfInBounds_toArray, List.set_cons_zero, List.set_cons_succ]
  refine lex_call (f := 61) (args := #[.agg #[.int .u64 a, .int .u64 b], .agg #[.int .u64 c, .int .u64 d]]) (v := .int .i64 (cmpV (wv a b) (wv c d))) rfl (fun w' => exec_call (by kernel_rfl) rfl rfl) (fun g w' _ hc => ?_) ?_
  · refine (wcmp_any a b c d w' hb hd hb2 hd2).mono ?_
    rintro e w'' ⟨rfl, hb⟩
    exact ⟨rfl, hc.below hc.b.size hb⟩
  refine lex_val rfl (fun g w' hc => hc) (fun g w' _ hc => exec_load_row _ rfl rfl (hc.X)) ?_
  refine lex_val rfl (fun g w' hc => hc) (fun g w' _ hc => exec_load_row _ rfl rfl (hc.Y)) ?_
  simp only [Act.put, List.setIfInBounds_toArray, List.set_cons_zero, List.set_cons_succ]
  refine lex_call (f := 62) (args := #[.agg (bf (bitF (wv a b))), .agg (bf (bitF (wv c d)))]) (v := .int .i64 (cmpV (wv a b) (wv c d))) rfl (fun w' => exec_call (by kernel_rfl) rfl rfl) (fun g w' _ hc => ?_) ?_
  · refine (cmp_any (wv a b) (wv c d) w' x0 x1 y0 y1).mono ?_
    rintro e w'' ⟨rfl, hb⟩
    exact ⟨rfl, hc.below hc.b.size hb⟩
  refine lex_val (v := .bool true) rfl (fun g w' hc => hc) (fun g w' _ hc => by clear hc; go_simp) ?_
  refine lex_val (v := .bool true) rfl (fun g w' hc => hc) (fun g w' _ _ => exec_pick (b := true) _ _ _ rfl rfl rfl) ?_
  simp only [Act.put, List.setIfInBounds_toArray, List.set_cons_zero, List.set_cons_succ]
  refine lex_val rfl (fun g w' hc => hc) (fun g w' _ _ => exec_move _ rfl rfl) ?_
  refine lex_call (f := 26) (args := #[]) (v := .bool true) rfl (fun w' => exec_call (by kernel_rfl) rfl rfl) (fun g w' _ hc => ?_) ?_
  · refine (alive_any w').mono ?_
    rintro e w'' ⟨rfl, hb⟩
    exact ⟨rfl, hc.below hc.b.size hb⟩
  refine lex_val (v := .bool true) rfl (fun g w' hc => hc) (fun g w' _ _ => exec_pick (b := true) _ _ _ rfl rfl rfl) ?_
  simp only [Act.put, List.setIfInBounds_toArray, List.set_cons_zero, List.set_cons_succ]
  refine lex_val rfl (fun g w' hc => hc) (fun g w' _ _ => exec_assign _ rfl rfl) ?_
  refine lex_nil ?_
  rintro w' hc
  have hB := hide hc.b
  clear hc
  go_wp2
  go_ret
  exact ⟨rfl, B2.out.trans ((B6.out.trans (hB.out.mono (by omega))).mono HN.out)⟩
end Go.Proofs.Ytadilccdipcmnaa
