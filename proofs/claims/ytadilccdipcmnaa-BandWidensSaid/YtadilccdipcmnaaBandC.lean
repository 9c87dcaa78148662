/- Bands of prices: what around, Both, Static, Dynamic, Of and Collar of the program and of the reference come to. Arguments: any int64, any symbol. -/
import Derived.Test.YtadilccdipcmnaaBandB
namespace Go.Proofs.Ytadilccdipcmnaa
open Go Go.RowKit
attribute [local go_sem] field_bnd0 field_bnd1

set_option maxRecDepth 100000 in
set_option maxHeartbeats 4000000 in
theorem both_any (x y u v : Int) (w : World) :
    Calls Try.prog 83 #[.agg #[.int .i64 x, .int .i64 y], .agg #[.int .i64 u, .int .i64 v]] w fun e w' => e = .returned (.agg #[.int .i64 (max x u), .int .i64 (min y v)]) ∧ Below w.heap.size w w' := by
  go_enter Try.func83, Try.ntmps83
  go_wp2_with (first | ((with_reducible apply load_bnd); exact rfl; exact rfl; exact rfl; focus ((repeat' (first | (with_reducible assumption) | ((with_reducible apply Bnd.new'); simp; done) | (with_reducible apply Bnd.setRow) | (with_reducible apply Bnd.setRow_other) | (with_reducible apply Bnd.alloc) | (simp; done) | omega | (simp; omega))); done)) | ((with_reducible apply store_bnd); exact rfl; exact rfl; exact rfl; exact rfl; exact rfl; exact rfl; focus ((repeat' (first | (with_reducible assumption) | ((with_reducible apply Bnd.new'); simp; done) | (with_reducible apply Bnd.setRow) | (with_reducible apply Bnd.setRow_other) | (with_reducible apply Bnd.alloc) | (simp; done) | omega | (simp; omega))); done)) | ((with_reducible apply beq_step); exact rfl; exact rfl; exact rfl; exact rfl; simp only [Act.put, List.setIfInBounds_toArray, List.set_cons_zero, List.set_cons_succ]) | ((with_reducible apply bneq_step); exact rfl; exact rfl; exact rfl; exact rfl; simp only [Act.put, List.setIfInBounds_toArray, List.set_cons_zero, List.set_cons_succ]))
  (with_reducible refine (common_any x y u v _ _ (Bnd.new' _ _ (by simp))).mono ?_)
  rintro e w1 ⟨rfl, hb⟩
  have tR : Bnd w1 (w.heap.size + 1 + 1) (.int .i64 0) (.int .i64 0) := Bnd.below (by (repeat' (first | (with_reducible assumption) | ((with_reducible apply Bnd.new'); simp; done) | (with_reducible apply Bnd.setRow) | (with_reducible apply Bnd.setRow_other) | (with_reducible apply Bnd.alloc) | (simp; done) | omega | (simp; omega)))) hb (by simp <;> omega)
  have B1 := hide (keep_below hb (by (repeat' (first | (with_reducible exact Below.refl _ _) | (with_reducible apply below_setRow) | (with_reducible apply Below.alloc) | (simp; done) | omega | (simp; omega)))) (by simp <;> omega) : Below w.heap.size w w1)
  clear hb
  dsimp only
  go_wp2_with (first | ((with_reducible apply load_bnd); exact rfl; exact rfl; exact rfl; focus ((repeat' (first | (with_reducible assumption) | ((with_reducible apply Bnd.new'); simp; done) | (with_reducible apply Bnd.setRow) | (with_reducible apply Bnd.setRow_other) | (with_reducible apply Bnd.alloc) | (simp; done) | omega | (simp; omega))); done)) | ((with_reducible apply store_bnd); exact rfl; exact rfl; exact rfl; exact rfl; exact rfl; exact rfl; focus ((repeat' (first | (with_reducible assumption) | ((with_reducible apply Bnd.new'); simp; done) | (with_reducible apply Bnd.setRow) | (with_reducible apply Bnd.setRow_other) | (with_reducible apply Bnd.alloc) | (simp; done) | omega | (simp; omega))); done)) | ((with_reducible apply beq_step); exact rfl; exact rfl; exact rfl; exact rfl; simp only [Act.put, List.setIfInBounds_toArray, List.set_cons_zero, List.set_cons_succ]) | ((with_reducible apply bneq_step); exact rfl; exact rfl; exact rfl; exact rfl; simp only [Act.put, List.setIfInBounds_toArray, List.set_cons_zero, List.set_cons_succ]))
  exact bodyPost_ret (results_bnd rfl _ _ rfl (by (repeat' (first | (with_reducible assumption) | ((with_reducible apply Bnd.new'); simp; done) | (with_reducible apply Bnd.setRow) | (with_reducible apply Bnd.setRow_other) | (with_reducible apply Bnd.alloc) | (simp; done) | omega | (simp; omega))))) rfl ⟨rfl, below_setRow B1.out (by omega) _⟩

def bandF (r parts g : Int) : Option (Int × Int) := (lowerF r parts g).bind fun lo => (upperF r parts g).map fun hi => (lo, hi)
def optB : Option (Int × Int) → Value
  | some p => .tuple #[.agg #[.int .i64 p.1, .int .i64 p.2], .bool true]
  | none => .tuple #[.agg #[.int .i64 0, .int .i64 0], .bool false]
theorem optB_some (p : Int × Int) : optB (some p) = .tuple #[.agg #[.int .i64 p.1, .int .i64 p.2], .bool true] := rfl
theorem optB_none : optB none = .tuple #[.agg #[.int .i64 0, .int .i64 0], .bool false] := rfl
theorem optB_split (o : Option (Int × Int)) : optB o = .tuple #[.agg #[.int .i64 (o.getD (0, 0)).1, .int .i64 (o.getD (0, 0)).2], .bool o.isSome] := by
  cases o <;> rfl
theorem lowerF_some {r bps g : Int} (h : fitsP r bps g) : ∃ lo, lowerF r bps g = some lo := by
  obtain ⟨h0, h1, h2, h3, h4, h5⟩ := h
  obtain ⟨n0, n1⟩ := parts_bd (r := r) (p := 10000 - bps) (by omega) h1 (by omega) (by omega)
  have hc : 0 ≤ ceilV (r * (10000 - bps)) ∧ ceilV (r * (10000 - bps)) ≤ 21990232555520000 := by
    unfold ceilV
    split <;> omega
  have e : lowerF r bps g = upF (ceilV (r * (10000 - bps))) g := if_pos ⟨h0, h1, h2, h3, h4, h5⟩
  rw [e, up_in hc.1 h4]
  generalize ceilV (r * (10000 - bps)) = p at *
  have h6 := Int.emod_nonneg p (show g ≠ 0 by omega)
  have h7 := Int.emod_lt_of_pos p (show 0 < g by omega)
  split
  · exact ⟨_, rfl⟩
  · exact ⟨_, if_pos (show okI (p - p % g + g) by unfold okI; omega)⟩
theorem band_in {r parts g : Int} (h : fitsP r parts g) : ∃ lo hi, lowerF r parts g = some lo ∧ upperF r parts g = some hi ∧ bandF r parts g = some (lo, hi) := by
  obtain ⟨lo, hl⟩ := lowerF_some h
  refine ⟨lo, _, hl, if_pos h, ?_⟩
  unfold bandF
  rw [hl, show upperF r parts g = _ from if_pos h]
  rfl
theorem band_out {r parts g : Int} (h : ¬ fitsP r parts g) : lowerF r parts g = none ∧ upperF r parts g = none ∧ bandF r parts g = none := by
  have e : lowerF r parts g = none := if_neg h
  exact ⟨e, if_neg h, by unfold bandF; rw [e]; rfl⟩
set_option maxRecDepth 100000 in
set_option maxHeartbeats 4000000 in
theorem around_any (r parts g : Int) (w : World) (hg : okI g) :
    Calls Try.prog 113 #[.int .i64 r, .int .i64 parts, .int .i64 g] w fun e w' => e = .returned (optB (bandF r parts g)) ∧ Below w.heap.size w w' := by
  have Hg := hide hg
  clear hg
  by_cases hf : fitsP r parts g
  · obtain ⟨lo, hi, h1, h2, h3⟩ := band_in hf
    have H1 := hide h1
    have H2 := hide h2
    rw [h3]
    clear h1 h2 h3 hf
    go_enter Try.func113, Try.ntmps113
    go_wp2_with (fail)
    (with_reducible refine (lower_any r parts g _ Hg.out).mono ?_)
    rintro e w1 ⟨rfl, hb⟩
    have tR : Bnd w1 w.heap.size (.int .i64 0) (.int .i64 0) := Bnd.below (by (repeat' (first | (with_reducible assumption) | ((with_reducible apply Bnd.new'); simp; done) | (with_reducible apply Bnd.setRow) | (with_reducible apply Bnd.setRow_other) | (with_reducible apply Bnd.alloc) | (simp; done) | omega | (simp; omega)))) hb (by simp <;> omega)
    have B1 := hide (keep_below hb (by (repeat' (first | (with_reducible exact Below.refl _ _) | (with_reducible apply below_setRow) | (with_reducible apply Below.alloc) | (simp; done) | omega | (simp; omega)))) (by simp <;> omega) : Below w.heap.size w w1)
    clear hb
    dsimp only
    have c0 := tR.c0
    have c1 := tR.c1
    have f0 := tR.free 0
    have f1 := tR.free 1
    rw [H1.out, opt_some]
    have tR' := hide tR
    clear tR
    go_wp2_with (fail)
    (with_reducible refine (upper_any r parts g _ Hg.out).mono ?_)
    rintro e w2 ⟨rfl, hb⟩
    have l2 := tR'.out.lt
    have tR : Bnd w2 w.heap.size (.int .i64 lo) (.int .i64 0) := (tR'.out.set0 _).below hb (by simpa using l2)
    have B2 := hide (keep_below hb (B1.out.setCell (by simp) _) (by simpa using B1.out.size) : Below w.heap.size w w2)
    clear hb c0 c1 f0 f1
    dsimp only
    rw [H2.out, opt_some]
    have tN := tR.set1 (.int .i64 hi)
    have c0 := tR.c0
    have c1 := tR.c1
    have f0 := tR.free 0
    have f1 := tR.free 1
    have d0 := tN.c0
    have d1 := tN.c1
    have g0 := tN.free 0
    have g1 := tN.free 1
    have tN' := hide tN
    clear tR tN
    go_wp2
    exact bodyPost_ret (results_bnd_tmp rfl _ _ rfl tN'.out.set2) rfl ⟨rfl, ((B2.out.setCell (by simp) _).setCell (by simp) _).setCell (by simp) _⟩
  · obtain ⟨h1, h2, h3⟩ := band_out hf
    have H1 := hide h1
    rw [h3]
    clear h1 h2 h3 hf
    go_enter Try.func113, Try.ntmps113
    go_wp2_with (fail)
    (with_reducible refine (lower_any r parts g _ Hg.out).mono ?_)
    rintro e w1 ⟨rfl, hb⟩
    have tR : Bnd w1 w.heap.size (.int .i64 0) (.int .i64 0) := Bnd.below (by (repeat' (first | (with_reducible assumption) | ((with_reducible apply Bnd.new'); simp; done) | (with_reducible apply Bnd.setRow) | (with_reducible apply Bnd.setRow_other) | (with_reducible apply Bnd.alloc) | (simp; done) | omega | (simp; omega)))) hb (by simp <;> omega)
    have B1 := hide (keep_below hb (by (repeat' (first | (with_reducible exact Below.refl _ _) | (with_reducible apply below_setRow) | (with_reducible apply Below.alloc) | (simp; done) | omega | (simp; omega)))) (by simp <;> omega) : Below w.heap.size w w1)
    clear hb
    dsimp only
    have c0 := tR.c0
    have c1 := tR.c1
    have f0 := tR.free 0
    have f1 := tR.free 1
    rw [H1.out, opt_none]
    have tR' := hide tR
    clear tR
    go_wp2_with (fail)
    exact bodyPost_ret (results_bnd_tmp rfl _ _ rfl (tR'.out.set0 _).set2) rfl ⟨rfl, ((B1.out.setCell (by simp) _).setCell (by simp) _).setCell (by simp) _⟩
set_option maxRecDepth 100000 in
set_option maxHeartbeats 4000000 in
theorem refaround_any (r parts g : Int) (w : World) (hg : okI g) :
    Calls Try.prog 124 #[.int .i64 r, .int .i64 parts, .int .i64 g] w fun e w' => e = .returned (optB (bandF r parts g)) ∧ Below w.heap.size w w' := by
  have Hg := hide hg
  clear hg
  by_cases hf : fitsP r parts g
  · obtain ⟨lo, hi, h1, h2, h3⟩ := band_in hf
    have H1 := hide h1
    have H2 := hide h2
    rw [h3]
    clear h1 h2 h3 hf
    go_enter Try.func124, Try.ntmps124
    go_wp2_with (fail)
    (with_reducible refine (reflower_any r parts g _ Hg.out).mono ?_)
    rintro e w1 ⟨rfl, hb⟩
    have tR : Bnd w1 w.heap.size (.int .i64 0) (.int .i64 0) := Bnd.below (by (repeat' (first | (with_reducible assumption) | ((with_reducible apply Bnd.new'); simp; done) | (with_reducible apply Bnd.setRow) | (with_reducible apply Bnd.setRow_other) | (with_reducible apply Bnd.alloc) | (simp; done) | omega | (simp; omega)))) hb (by simp <;> omega)
    have B1 := hide (keep_below hb (by (repeat' (first | (with_reducible exact Below.refl _ _) | (with_reducible apply below_setRow) | (with_reducible apply Below.alloc) | (simp; done) | omega | (simp; omega)))) (by simp <;> omega) : Below w.heap.size w w1)
    clear hb
    dsimp only
    rw [H1.out, opt_some]
    go_wp2_with (fail)
    (with_reducible refine (refupper_any r parts g _ Hg.out).mono ?_)
    rintro e w2 ⟨rfl, rfl⟩
    dsimp only
    rw [H2.out, opt_some]
    go_wp2_with (first | ((with_reducible apply load_bnd); exact rfl; exact rfl; exact rfl; focus ((repeat' (first | (with_reducible assumption) | ((with_reducible apply Bnd.new'); simp; done) | (with_reducible apply Bnd.setRow) | (with_reducible apply Bnd.setRow_other) | (with_reducible apply Bnd.alloc) | (simp; done) | omega | (simp; omega))); done)) | ((with_reducible apply store_bnd); exact rfl; exact rfl; exact rfl; exact rfl; exact rfl; exact rfl; focus ((repeat' (first | (with_reducible assumption) | ((with_reducible apply Bnd.new'); simp; done) | (with_reducible apply Bnd.setRow) | (with_reducible apply Bnd.setRow_other) | (with_reducible apply Bnd.alloc) | (simp; done) | omega | (simp; omega))); done)) | ((with_reducible apply beq_step); exact rfl; exact rfl; exact rfl; exact rfl; simp only [Act.put, List.setIfInBounds_toArray, List.set_cons_zero, List.set_cons_succ]) | ((with_reducible apply bneq_step); exact rfl; exact rfl; exact rfl; exact rfl; simp only [Act.put, List.setIfInBounds_toArray, List.set_cons_zero, List.set_cons_succ]))
    exact bodyPost_ret (results_bnd_tmp rfl _ _ rfl (by (repeat' (first | (with_reducible assumption) | ((with_reducible apply Bnd.new'); simp; done) | (with_reducible apply Bnd.setRow) | (with_reducible apply Bnd.setRow_other) | (with_reducible apply Bnd.alloc) | (simp; done) | omega | (simp; omega))))) rfl ⟨rfl, below_setRow B1.out (Nat.le_refl _) _⟩
  · obtain ⟨h1, h2, h3⟩ := band_out hf
    have H1 := hide h1
    have H2 := hide h2
    rw [h3]
    clear h1 h2 h3 hf
    go_enter Try.func124, Try.ntmps124
    go_wp2_with (fail)
    (with_reducible refine (reflower_any r parts g _ Hg.out).mono ?_)
    rintro e w1 ⟨rfl, hb⟩
    have tR : Bnd w1 w.heap.size (.int .i64 0) (.int .i64 0) := Bnd.below (by (repeat' (first | (with_reducible assumption) | ((with_reducible apply Bnd.new'); simp; done) | (with_reducible apply Bnd.setRow) | (with_reducible apply Bnd.setRow_other) | (with_reducible apply Bnd.alloc) | (simp; done) | omega | (simp; omega)))) hb (by simp <;> omega)
    have B1 := hide (keep_below hb (by (repeat' (first | (with_reducible exact Below.refl _ _) | (with_reducible apply below_setRow) | (with_reducible apply Below.alloc) | (simp; done) | omega | (simp; omega)))) (by simp <;> omega) : Below w.heap.size w w1)
    clear hb
    dsimp only
    rw [H1.out, opt_none]
    go_wp2_with (fail)
    (with_reducible refine (refupper_any r parts g _ Hg.out).mono ?_)
    rintro e w2 ⟨rfl, rfl⟩
    dsimp only
    rw [H2.out, opt_none]
    go_wp2_with (first | ((with_reducible apply load_bnd); exact rfl; exact rfl; exact rfl; focus ((repeat' (first | (with_reducible assumption) | ((with_reducible apply Bnd.new'); simp; done) | (with_reducible apply Bnd.setRow) | (with_reducible apply Bnd.setRow_other) | (with_reducible apply Bnd.alloc) | (simp; done) | omega | (simp; omega))); done)) | ((with_reducible apply store_bnd); exact rfl; exact rfl; exact rfl; exact rfl; exact rfl; exact rfl; focus ((repeat' (first | (with_reducible assumption) | ((with_reducible apply Bnd.new'); simp; done) | (with_reducible apply Bnd.setRow) | (with_reducible apply Bnd.setRow_other) | (with_reducible apply Bnd.alloc) | (simp; done) | omega | (simp; omega))); done)) | ((with_reducible apply beq_step); exact rfl; exact rfl; exact rfl; exact rfl; simp only [Act.put, List.setIfInBounds_toArray, List.set_cons_zero, List.set_cons_succ]) | ((with_reducible apply bneq_step); exact rfl; exact rfl; exact rfl; exact rfl; simp only [Act.put, List.setIfInBounds_toArray, List.set_cons_zero, List.set_cons_succ]))
    exact bodyPost_ret (results_bnd_tmp rfl _ _ rfl (by (repeat' (first | (with_reducible assumption) | ((with_reducible apply Bnd.new'); simp; done) | (with_reducible apply Bnd.setRow) | (with_reducible apply Bnd.setRow_other) | (with_reducible apply Bnd.alloc) | (simp; done) | omega | (simp; omega))))) rfl ⟨rfl, below_setRow B1.out (Nat.le_refl _) _⟩
end Go.Proofs.Ytadilccdipcmnaa
