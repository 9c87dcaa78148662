/- The law BandLooks: the walk. -/
import Derived.Test.YtadilccdipcmnaaBandF
namespace Go.Proofs.Ytadilccdipcmnaa
open Go Go.RowKit
attribute [local go_sem] field_bnd0 field_bnd1

/-- What BandLooks's last region reads. -/
structure LooksC (N : Nat) (w0 : World) (x y u v : Int) (w : World) : Prop where
  A : Bnd w N (.int .i64 x) (.int .i64 y)
  B : Bnd w (N + 1) (.int .i64 u) (.int .i64 v)
  b : Below N w0 w
section
variable {N : Nat} {w0 : World} {x y u v : Int} {w w' : World}
theorem LooksC.below (c : LooksC N w0 x y u v w) (hb : Below w.heap.size w w') : LooksC N w0 x y u v w' :=
  ⟨c.A.below hb c.A.lt, c.B.below hb c.B.lt, c.b.trans (hb.mono (Nat.le_of_lt c.A.lt))⟩
theorem LooksC.drew (c : LooksC N w0 x y u v w) : LooksC N w0 x y u v w.drew := ⟨c.A, c.B, c.b.drew⟩
end
set_option maxRecDepth 100000 in
set_option maxHeartbeats 4000000 in
theorem bandLooks_w (x y u v p bid ask : Int) (w : World) :
    Calls Try.prog 18 #[.agg #[.int .i64 x, .int .i64 y], .agg #[.int .i64 u, .int .i64 v], .int .i64 p, .int .i64 bid, .int .i64 ask] w fun e w' => e = .returned (.bool true) ∧ Below w.heap.size w w' := by
  obtain ⟨N, hN⟩ : ∃ N, N = w.heap.size := ⟨_, rfl⟩
  obtain ⟨c, hc⟩ : ∃ c, c = (clipF x y p).getD 0 := ⟨_, rfl⟩
  obtain ⟨d, hd⟩ : ∃ d, d = (clipF x y p).isSome := ⟨_, rfl⟩
  have HO : Hid (opt (clipF x y p) = .tuple #[.int .i64 c, .bool d]) := hide (by rw [hc, hd]; exact opt_split _)
  clear hc hd
  go_enter Try.func18, Try.ntmps18
  go_wp2_with (first | first | ((with_reducible apply load_bnd); exact rfl; exact rfl; exact rfl; focus ((repeat' (first | (with_reducible assumption) | ((with_reducible apply Bnd.new'); simp; done) | (with_reducible apply Bnd.setRow) | (with_reducible apply Bnd.setRow_other) | (with_reducible apply Bnd.alloc) | (simp; done) | omega | (simp; omega))); done)) | ((with_reducible apply store_bnd); exact rfl; exact rfl; exact rfl; exact rfl; exact rfl; exact rfl; focus ((repeat' (first | (with_reducible assumption) | ((with_reducible apply Bnd.new'); simp; done) | (with_reducible apply Bnd.setRow) | (with_reducible apply Bnd.setRow_other) | (with_reducible apply Bnd.alloc) | (simp; done) | omega | (simp; omega))); done)) | ((with_reducible apply beq_step); exact rfl; exact rfl; exact rfl; exact rfl; simp only [Act.put, List.setIfInBounds_toArray, List.set_cons_zero, List.set_cons_succ]) | ((with_reducible apply bneq_step); exact rfl; exact rfl; exact rfl; exact rfl; simp only [Act.put, List.setIfInBounds_toArray, List.set_cons_zero, List.set_cons_succ]) | first | ((with_reducible apply gload_bnd); exact rfl; exact rfl; exact rfl; focus ((repeat' (first | (with_reducible assumption) | ((with_reducible apply Bnd.new'); simp; done) | (with_reducible apply Bnd.setRow) | (with_reducible apply Bnd.setRow_other) | (with_reducible apply Bnd.alloc) | (simp; done) | omega | (simp; omega))); done)) | ((with_reducible apply geq_bnd); exact rfl; exact rfl; exact rfl; exact rfl; simp only [Act.put, List.setIfInBounds_toArray, List.set_cons_zero, List.set_cons_succ]) | ((with_reducible apply gneq_bnd); exact rfl; exact rfl; exact rfl; exact rfl; simp only [Act.put, List.setIfInBounds_toArray, List.set_cons_zero, List.set_cons_succ]))
  (with_reducible refine (clip_any x y p _).mono ?_)
  rintro e w1 ⟨rfl, hb⟩
  have h0 : LooksC N w x y u v ((w.alloc (.cells #[.int .i64 x, .int .i64 y] 53)).alloc (.cells #[.int .i64 u, .int .i64 v] 53)) :=
    ⟨Bnd.alloc (Bnd.new' _ _ hN.symm) _, Bnd.new' _ _ (by simp [hN]), by rw [hN]; exact (by (repeat' (first | (with_reducible exact Below.refl _ _) | (with_reducible apply below_setRow) | (with_reducible apply Below.alloc) | (simp; done) | omega | (simp; omega))))⟩
  have h1 := h0.below hb
  have tA := h1.A
  clear hb h0
  rw [HO.out, ← hN]
  have HN := hide hN
  clear hN
  dsimp only
  go_wp2_with (first | first | ((with_reducible apply load_bnd); exact rfl; exact rfl; exact rfl; focus ((repeat' (first | (with_reducible assumption) | ((with_reducible apply Bnd.new'); simp; done) | (with_reducible apply Bnd.setRow) | (with_reducible apply Bnd.setRow_other) | (with_reducible apply Bnd.alloc) | (simp; done) | omega | (simp; omega))); done)) | ((with_reducible apply store_bnd); exact rfl; exact rfl; exact rfl; exact rfl; exact rfl; exact rfl; focus ((repeat' (first | (with_reducible assumption) | ((with_reducible apply Bnd.new'); simp; done) | (with_reducible apply Bnd.setRow) | (with_reducible apply Bnd.setRow_other) | (with_reducible apply Bnd.alloc) | (simp; done) | omega | (simp; omega))); done)) | ((with_reducible apply beq_step); exact rfl; exact rfl; exact rfl; exact rfl; simp only [Act.put, List.setIfInBounds_toArray, List.set_cons_zero, List.set_cons_succ]) | ((with_reducible apply bneq_step); exact rfl; exact rfl; exact rfl; exact rfl; simp only [Act.put, List.setIfInBounds_toArray, List.set_cons_zero, List.set_cons_succ]) | first | ((with_reducible apply gload_bnd); exact rfl; exact rfl; exact rfl; focus ((repeat' (first | (with_reducible assumption) | ((with_reducible apply Bnd.new'); simp; done) | (with_reducible apply Bnd.setRow) | (with_reducible apply Bnd.setRow_other) | (with_reducible apply Bnd.alloc) | (simp; done) | omega | (simp; omega))); done)) | ((with_reducible apply geq_bnd); exact rfl; exact rfl; exact rfl; exact rfl; simp only [Act.put, List.setIfInBounds_toArray, List.set_cons_zero, List.set_cons_succ]) | ((with_reducible apply gneq_bnd); exact rfl; exact rfl; exact rfl; exact rfl; simp only [Act.put, List.setIfInBounds_toArray, List.set_cons_zero, List.set_cons_succ]))
  (with_reducible refine (refclip_any x y p _).mono ?_)
  rintro e w2 ⟨rfl, hb⟩
  have h2 := h1.below hb
  clear hb h1 tA
  rw [HO.out]
  dsimp only
  go_wp2_with (first | first | ((with_reducible apply load_bnd); exact rfl; exact rfl; exact rfl; focus ((repeat' (first | (with_reducible assumption) | ((with_reducible apply Bnd.new'); simp; done) | (with_reducible apply Bnd.setRow) | (with_reducible apply Bnd.setRow_other) | (with_reducible apply Bnd.alloc) | (simp; done) | omega | (simp; omega))); done)) | ((with_reducible apply store_bnd); exact rfl; exact rfl; exact rfl; exact rfl; exact rfl; exact rfl; focus ((repeat' (first | (with_reducible assumption) | ((with_reducible apply Bnd.new'); simp; done) | (with_reducible apply Bnd.setRow) | (with_reducible apply Bnd.setRow_other) | (with_reducible apply Bnd.alloc) | (simp; done) | omega | (simp; omega))); done)) | ((with_reducible apply beq_step); exact rfl; exact rfl; exact rfl; exact rfl; simp only [Act.put, List.setIfInBounds_toArray, List.set_cons_zero, List.set_cons_succ]) | ((with_reducible apply bneq_step); exact rfl; exact rfl; exact rfl; exact rfl; simp only [Act.put, List.setIfInBounds_toArray, List.set_cons_zero, List.set_cons_succ]) | first | ((with_reducible apply gload_bnd); exact rfl; exact rfl; exact rfl; focus ((repeat' (first | (with_reducible assumption) | ((with_reducible apply Bnd.new'); simp; done) | (with_reducible apply Bnd.setRow) | (with_reducible apply Bnd.setRow_other) | (with_reducible apply Bnd.alloc) | (simp; done) | omega | (simp; omega))); done)) | ((with_reducible apply geq_bnd); exact rfl; exact rfl; exact rfl; exact rfl; simp only [Act.put, List.setIfInBounds_toArray, List.set_cons_zero, List.set_cons_succ]) | ((with_reducible apply gneq_bnd); exact rfl; exact rfl; exact rfl; exact rfl; simp only [Act.put, List.setIfInBounds_toArray, List.set_cons_zero, List.set_cons_succ]))
  refine wp_region_drawn (fun _ w' => LooksC N w x y u v w') mixed (by kernel_rfl) h2.drew ?_
  clear h2
  refine lex_val rfl (fun g w' hc => hc) (fun g w' _ hc => exec_load_bnd _ rfl rfl (hc.A)) ?_
  refine lex_val rfl (fun g w' hc => hc) (fun g w' _ _ => exec_move _ rfl rfl) ?_
  refine lex_call (f := 43) (args := #[.agg #[.int .i64 x, .int .i64 y], .int .i64 p]) (v := .bool (inF x y p)) rfl (fun w' => exec_call (by kernel_rfl) rfl rfl) (fun g w' _ hc => ?_) ?_
  · refine (in_any x y p w').mono ?_
    rintro e w'' ⟨rfl, hb⟩
    exact ⟨rfl, hc.below hb⟩
  simp only [Act.put, List.setIfInBounds_toArray, List.set_cons_zero, List.set_cons_succ]
  refine lex_val rfl (fun g w' hc => hc) (fun g w' _ hc => exec_load_bnd _ rfl rfl (hc.A)) ?_
  refine lex_val rfl (fun g w' hc => hc) (fun g w' _ _ => exec_move _ rfl rfl) ?_
  refine lex_call (f := 82) (args := #[.agg #[.int .i64 x, .int .i64 y], .int .i64 p]) (v := .bool (inF x y p)) rfl (fun w' => exec_call (by kernel_rfl) rfl rfl) (fun g w' _ hc => ?_) ?_
  · refine (refin_any x y p w').mono ?_
    rintro e w'' ⟨rfl, hb⟩
    exact ⟨rfl, hc.below hb⟩
  simp only [Act.put, List.setIfInBounds_toArray, List.set_cons_zero, List.set_cons_succ]
  refine lex_val (v := .bool true) rfl (fun g w' hc => hc) (fun g w' _ hc => by clear hc; go_simp) ?_
  refine lex_val rfl (fun g w' hc => hc) (fun g w' _ _ => exec_move _ rfl rfl) ?_
  refine lex_val rfl (fun g w' hc => hc) (fun g w' _ _ => exec_move _ rfl rfl) ?_
  simp only [Act.put, List.setIfInBounds_toArray, List.set_cons_zero, List.set_cons_succ]
  refine lex_val rfl (fun g w' hc => hc) (fun g w' _ _ => exec_move _ rfl rfl) ?_
  refine lex_val (v := .bool true) rfl (fun g w' hc => hc) (fun g w' _ hc => by clear hc; go_simp) ?_
  refine lex_val (v := .bool true) rfl (fun g w' hc => hc) (fun g w' _ _ => exec_pick (b := true) _ _ _ rfl rfl rfl) ?_
  simp only [Act.put, List.setIfInBounds_toArray, List.set_cons_zero, List.set_cons_succ]
  refine lex_val rfl (fun g w' hc => hc) (fun g w' _ _ => exec_move _ rfl rfl) ?_
  refine lex_val rfl (fun g w' hc => hc) (fun g w' _ _ => exec_move _ rfl rfl) ?_
  refine lex_val rfl (fun g w' hc => hc) (fun g w' _ _ => exec_move _ rfl rfl) ?_
  simp only [Act.put, List.setIfInBounds_toArray, List.set_cons_zero, List.set_cons_succ]
  refine lex_val (v := .bool true) rfl (fun g w' hc => hc) (fun g w' _ hc => by clear hc; go_simp) ?_
  refine lex_val (v := .bool true) rfl (fun g w' hc => hc) (fun g w' _ _ => exec_pick (b := true) _ _ _ rfl rfl rfl) ?_
  refine lex_val rfl (fun g w' hc => hc) (fun g w' _ _ => exec_move _ rfl rfl) ?_
  simp only [Act.put, List.setIfInBounds_toArray, List.set_cons_zero, List.set_cons_succ]
  refine lex_val rfl (fun g w' hc => hc) (fun g w' _ hc => exec_load_bnd _ rfl rfl (hc.A)) ?_
  refine lex_val rfl (fun g w' hc => hc) (fun g w' _ hc => exec_load_bnd _ rfl rfl (hc.B)) ?_
  refine lex_call (f := 83) (args := #[.agg #[.int .i64 x, .int .i64 y], .agg #[.int .i64 u, .int .i64 v]]) (v := .agg #[.int .i64 (max x u), .int .i64 (min y v)]) rfl (fun w' => exec_call (by kernel_rfl) rfl rfl) (fun g w' _ hc => ?_) ?_
  · refine (both_any x y u v w').mono ?_
    rintro e w'' ⟨rfl, hb⟩
    exact ⟨rfl, hc.below hb⟩
  simp only [Act.put, List.setIfInBounds_toArray, List.set_cons_zero, List.set_cons_succ]
  refine lex_val rfl (fun g w' hc => hc) (fun g w' _ hc => exec_load_bnd _ rfl rfl (hc.A)) ?_
  refine lex_val rfl (fun g w' hc => hc) (fun g w' _ hc => exec_load_bnd _ rfl rfl (hc.B)) ?_
  refine lex_call (f := 84) (args := #[.agg #[.int .i64 x, .int .i64 y], .agg #[.int .i64 u, .int .i64 v]]) (v := .agg #[.int .i64 (max x u), .int .i64 (min y v)]) rfl (fun w' => exec_call (by kernel_rfl) rfl rfl) (fun g w' _ hc => ?_) ?_
  · refine (refboth_any x y u v w').mono ?_
    rintro e w'' ⟨rfl, hb⟩
    exact ⟨rfl, hc.below hb⟩
  simp only [Act.put, List.setIfInBounds_toArray, List.set_cons_zero, List.set_cons_succ]
  refine lex_val (v := .bool true) rfl (fun g w' hc => hc) (fun g w' _ hc => by rw [exec_eq_bnd rfl rfl rfl]; simp) ?_
  refine lex_val (v := .bool true) rfl (fun g w' hc => hc) (fun g w' _ _ => exec_pick (b := true) _ _ _ rfl rfl rfl) ?_
  refine lex_val rfl (fun g w' hc => hc) (fun g w' _ _ => exec_move _ rfl rfl) ?_
  simp only [Act.put, List.setIfInBounds_toArray, List.set_cons_zero, List.set_cons_succ]
  refine lex_val rfl (fun g w' hc => hc) (fun g w' _ hc => exec_load_bnd _ rfl rfl (hc.A)) ?_
  refine lex_val rfl (fun g w' hc => hc) (fun g w' _ _ => exec_move _ rfl rfl) ?_
  refine lex_val rfl (fun g w' hc => hc) (fun g w' _ _ => exec_move _ rfl rfl) ?_
  simp only [Act.put, List.setIfInBounds_toArray, List.set_cons_zero, List.set_cons_succ]
  refine lex_call (f := 85) (args := #[.agg #[.int .i64 x, .int .i64 y], .int .i64 bid, .int .i64 ask]) (v := .bool (touchF x y bid ask)) rfl (fun w' => exec_call (by kernel_rfl) rfl rfl) (fun g w' _ hc => ?_) ?_
  · refine (touch_any x y bid ask w').mono ?_
    rintro e w'' ⟨rfl, hb⟩
    exact ⟨rfl, hc.below hb⟩
  refine lex_val rfl (fun g w' hc => hc) (fun g w' _ hc => exec_load_bnd _ rfl rfl (hc.A)) ?_
  refine lex_val rfl (fun g w' hc => hc) (fun g w' _ _ => exec_move _ rfl rfl) ?_
  simp only [Act.put, List.setIfInBounds_toArray, List.set_cons_zero, List.set_cons_succ]
  refine lex_val rfl (fun g w' hc => hc) (fun g w' _ _ => exec_move _ rfl rfl) ?_
  refine lex_call (f := 86) (args := #[.agg #[.int .i64 x, .int .i64 y], .int .i64 bid, .int .i64 ask]) (v := .bool (touchF x y bid ask)) rfl (fun w' => exec_call (by kernel_rfl) rfl rfl) (fun g w' _ hc => ?_) ?_
  · refine (reftouch_any x y bid ask w').mono ?_
    rintro e w'' ⟨rfl, hb⟩
    exact ⟨rfl, hc.below hb⟩
  refine lex_val (v := .bool true) rfl (fun g w' hc => hc) (fun g w' _ hc => by clear hc; go_simp) ?_
  simp only [Act.put, List.setIfInBounds_toArray, List.set_cons_zero, List.set_cons_succ]
  refine lex_val (v := .bool true) rfl (fun g w' hc => hc) (fun g w' _ _ => exec_pick (b := true) _ _ _ rfl rfl rfl) ?_
  refine lex_val rfl (fun g w' hc => hc) (fun g w' _ _ => exec_move _ rfl rfl) ?_
  refine lex_call (f := 41) (args := #[]) (v := .bool true) rfl (fun w' => exec_call (by kernel_rfl) rfl rfl) (fun g w' _ hc => ?_) ?_
  · refine (alive20_any w').mono ?_
    rintro e w'' ⟨rfl, hb⟩
    exact ⟨rfl, hc.below hb⟩
  simp only [Act.put, List.setIfInBounds_toArray, List.set_cons_zero, List.set_cons_succ]
  refine lex_val (v := .bool true) rfl (fun g w' hc => hc) (fun g w' _ _ => exec_pick (b := true) _ _ _ rfl rfl rfl) ?_
  refine lex_val rfl (fun g w' hc => hc) (fun g w' _ _ => exec_assign _ rfl rfl) ?_
  refine lex_nil ?_
  intro w' hc
  have hB := hc.b
  clear hc
  rw [HN.out] at hB
  have HB := hide hB
  clear hB
  go_wp2
  go_ret
  exact ⟨rfl, HB.out⟩
end Go.Proofs.Ytadilccdipcmnaa
