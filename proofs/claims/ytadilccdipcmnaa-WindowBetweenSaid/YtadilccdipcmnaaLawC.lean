/- The law WideMoves: the walk. -/
import Derived.Test.YtadilccdipcmnaaLawB
namespace Go.Proofs.Ytadilccdipcmnaa
open Go Go.RowKit
attribute [local go_sem] field_two0 field_two1

theorem halves_of {x : Int} (h0 : 0 ≤ x) (h : x < M128) : 0 ≤ x % M64 ∧ x % M64 < M64 ∧ 0 ≤ x ∧ x < M128 ∧ wv (x / M64) (x % M64) = x := by
  unfold wv
  rw [M64_eq]
  omega
/-- What WideMoves's last region keeps. -/
def MovesC (B : Nat) (w0 : World) (x h l : Int) (w : World) : Prop :=
  Row w B (bitF x) ∧ Two w (B + 1) (.int .u64 h) (.int .u64 l) ∧ Below B w0 w
theorem MovesC.below {B : Nat} {w0 : World} {x h l : Int} {w w' : World} (c : MovesC B w0 x h l w) (hb : Below w.heap.size w w') : MovesC B w0 x h l w' :=
  ⟨c.1.below hb c.1.lt, c.2.1.below hb c.2.1.lt, c.2.2.trans (hb.mono (Nat.le_of_lt c.1.lt))⟩
theorem MovesC.drew {B : Nat} {w0 : World} {x h l : Int} {w : World} (c : MovesC B w0 x h l w) : MovesC B w0 x h l w.drew := ⟨c.1.drew, c.2.1, c.2.2.drew⟩
set_option maxRecDepth 100000 in
set_option maxHeartbeats 4000000 in
theorem wideMoves_walk (a b n : Int) (w : World) (ha : 0 ≤ a) (hb : 0 ≤ b) (ha2 : a < M64) (hb2 : b < M64) (_ : -9223372036854775808 ≤ n) (_ : n ≤ 9223372036854775807) :
    Calls Try.prog 4 #[.int .u64 a, .int .u64 b, .int .i64 n] w fun e w' => e = .returned (.bool true) ∧ Below w.heap.size w w' := by
  obtain ⟨p0, p1⟩ := of_bd ha hb ha2 hb2
  have HL := hide (show 0 ≤ lft (wv a b) n % M64 ∧ lft (wv a b) n % M64 < M64 ∧ 0 ≤ lft (wv a b) n ∧ lft (wv a b) n < M128 ∧ wv (lft (wv a b) n / M64) (lft (wv a b) n % M64) = lft (wv a b) n from halves_of (lft_bd _ n p0 p1).1 (lft_bd _ n p0 p1).2)
  have HR := hide (show 0 ≤ rgt (wv a b) n % M64 ∧ rgt (wv a b) n % M64 < M64 ∧ 0 ≤ rgt (wv a b) n ∧ rgt (wv a b) n < M128 ∧ wv (rgt (wv a b) n / M64) (rgt (wv a b) n % M64) = rgt (wv a b) n from halves_of (rgt_bd _ n p0 p1).1 (rgt_bd _ n p0 p1).2)
  go_enter Try.func4, Try.ntmps4
  go_wp2_with (fail)
  (with_reducible refine (of_any a b _ ha hb ha2 hb2).mono ?_)
  rintro e w1 ⟨rfl, hb1⟩
  have B1 := hide hb1
  clear hb1
  dsimp only
  go_wp2_with (first | ((with_reducible apply load_row); exact rfl; exact rfl; exact rfl; focus ((repeat' (first | (with_reducible assumption) | ((with_reducible apply Row.zero'); simp; done) | ((with_reducible apply Row.new'); simp; done) | (with_reducible apply Row.setRow) | (with_reducible apply Row.setRow_other) | (with_reducible apply Row.alloc) | (with_reducible apply Row.drew) | (simp; done) | (simp; omega))); done)) | ((with_reducible apply store_row); exact rfl; exact rfl; exact rfl; exact rfl; focus ((repeat' (first | (with_reducible assumption) | ((with_reducible apply Row.zero'); simp; done) | ((with_reducible apply Row.new'); simp; done) | (with_reducible apply Row.setRow) | (with_reducible apply Row.setRow_other) | (with_reducible apply Row.alloc) | (with_reducible apply Row.drew) | (simp; done) | (simp; omega))); done)))
  have hC : MovesC w1.heap.size w1 (a * M64 + b) a b (((w1.alloc (.cells Try.zeroCells28 28)).setRow w1.heap.size (bf (bitF (a * M64 + b)))).alloc (.cells #[.int .u64 a, .int .u64 b] 25)) := by
    refine ⟨by apply Row.alloc; apply Row.setRow; exact Row.zero' (by simp), by apply Two.new'; simp, ?_⟩
    exact (below_setRow ((Below.refl w1.heap.size w1).alloc (Nat.le_refl _) _) (by simp) _).alloc (by simp) _


  refine wp_region_drawn (fun _ w' => MovesC w1.heap.size w1 (a * M64 + b) a b w') mixed (by kernel_rfl) hC.drew ?_
  refine lex_val rfl (fun g w' hc => hc) (fun g w' _ hc => exec_load_two _ rfl rfl (hc.2.1)) ?_
  refine lex_val rfl (fun g w' hc => hc) (fun g w' _ _ => exec_move _ rfl rfl) ?_
  refine lex_call (f := 28) (args := #[.agg #[.int .u64 a, .int .u64 b], .int .i64 n]) (v := .agg #[.int .u64 (lft (wv a b) n / M64), .int .u64 (lft (wv a b) n % M64)]) rfl (fun w' => exec_call (by kernel_rfl) rfl rfl) (fun g w' _ hc => ?_) ?_
  · refine (wleft_any a b n w' ha hb ha2 hb2).mono ?_
    rintro e w'' ⟨rfl, hb⟩
    exact ⟨rfl, hc.below hb⟩
  simp only [Act.put, List.setIfInBounds_toArray, List.set_cons_zero, List.set_cons_succ]
  refine lex_val rfl (fun g w' hc => hc) (fun g w' _ hc => exec_load_row _ rfl rfl (hc.1)) ?_
  refine lex_val rfl (fun g w' hc => hc) (fun g w' _ _ => exec_move _ rfl rfl) ?_
  refine lex_call (f := 29) (args := #[.agg (bf (bitF (a * M64 + b))), .int .i64 n]) (v := .agg (bf (bitF (lft (wv a b) n)))) rfl (fun w' => exec_call (by kernel_rfl) rfl rfl) (fun g w' _ hc => ?_) ?_
  · refine (left_any (a * M64 + b) n w' p0).mono ?_
    rintro e w'' ⟨rfl, hb⟩
    exact ⟨rfl, hc.below hb⟩
  simp only [Act.put, List.setIfInBounds_toArray, List.set_cons_zero, List.set_cons_succ]
  refine lex_call (f := 23) (args := #[.agg #[.int .u64 (lft (wv a b) n / M64), .int .u64 (lft (wv a b) n % M64)], .agg (bf (bitF (lft (wv a b) n)))]) (v := .bool true) rfl (fun w' => exec_call (by kernel_rfl) rfl rfl) (fun g w' _ hc => ?_) ?_
  · refine (is_any (lft (wv a b) n / M64) (lft (wv a b) n % M64) (lft (wv a b) n) w' HL.out.1 HL.out.2.1 HL.out.2.2.1 HL.out.2.2.2.1).mono ?_
    rintro e w'' ⟨rfl, hb⟩
    exact ⟨by rw [decide_eq_true HL.out.2.2.2.2], hc.below hb⟩
  refine lex_val rfl (fun g w' hc => hc) (fun g w' _ _ => exec_move _ rfl rfl) ?_
  refine lex_val rfl (fun g w' hc => hc) (fun g w' _ hc => exec_load_two _ rfl rfl (hc.2.1)) ?_
  simp only [Act.put, List.setIfInBounds_toArray, List.set_cons_zero, List.set_cons_succ]
  refine lex_val rfl (fun g w' hc => hc) (fun g w' _ _ => exec_move _ rfl rfl) ?_
  refine lex_call (f := 30) (args := #[.agg #[.int .u64 a, .int .u64 b], .int .i64 n]) (v := .agg #[.int .u64 (rgt (wv a b) n / M64), .int .u64 (rgt (wv a b) n % M64)]) rfl (fun w' => exec_call (by kernel_rfl) rfl rfl) (fun g w' _ hc => ?_) ?_
  · refine (wright_any a b n w' ha hb ha2 hb2).mono ?_
    rintro e w'' ⟨rfl, hb⟩
    exact ⟨rfl, hc.below hb⟩
  refine lex_val rfl (fun g w' hc => hc) (fun g w' _ hc => exec_load_row _ rfl rfl (hc.1)) ?_
  simp only [Act.put, List.setIfInBounds_toArray, List.set_cons_zero, List.set_cons_succ]
  refine lex_val rfl (fun g w' hc => hc) (fun g w' _ _ => exec_move _ rfl rfl) ?_
  refine lex_call (f := 31) (args := #[.agg (bf (bitF (a * M64 + b))), .int .i64 n]) (v := .agg (bf (bitF (rgt (wv a b) n)))) rfl (fun w' => exec_call (by kernel_rfl) rfl rfl) (fun g w' _ hc => ?_) ?_
  · refine (right_any (a * M64 + b) n w' p0 p1).mono ?_
    rintro e w'' ⟨rfl, hb⟩
    exact ⟨rfl, hc.below hb⟩
  refine lex_call (f := 23) (args := #[.agg #[.int .u64 (rgt (wv a b) n / M64), .int .u64 (rgt (wv a b) n % M64)], .agg (bf (bitF (rgt (wv a b) n)))]) (v := .bool true) rfl (fun w' => exec_call (by kernel_rfl) rfl rfl) (fun g w' _ hc => ?_) ?_
  · refine (is_any (rgt (wv a b) n / M64) (rgt (wv a b) n % M64) (rgt (wv a b) n) w' HR.out.1 HR.out.2.1 HR.out.2.2.1 HR.out.2.2.2.1).mono ?_
    rintro e w'' ⟨rfl, hb⟩
    exact ⟨by rw [decide_eq_true HR.out.2.2.2.2], hc.below hb⟩
  simp only [Act.put, List.setIfInBounds_toArray, List.set_cons_zero, List.set_cons_succ]
  refine lex_val (v := .bool true) rfl (fun g w' hc => hc) (fun g w' _ _ => exec_pick (b := true) _ _ _ rfl rfl rfl) ?_
  refine lex_val rfl (fun g w' hc => hc) (fun g w' _ _ => exec_move _ rfl rfl) ?_
  refine lex_val rfl (fun g w' hc => hc) (fun g w' _ hc => exec_load_two _ rfl rfl (hc.2.1)) ?_
  simp only [Act.put, List.setIfInBounds_toArray, List.set_cons_zero, List.set_cons_succ]
  refine lex_call (f := 32) (args := #[.agg #[.int .u64 a, .int .u64 b]]) (v := .int .i64 (blen (wv a b))) rfl (fun w' => exec_call (by kernel_rfl) rfl rfl) (fun g w' _ hc => ?_) ?_
  · refine (wlen_any a b w' ha hb ha2 hb2).mono ?_
    rintro e w'' ⟨rfl, hb⟩
    exact ⟨rfl, hc.below hb⟩
  refine lex_val rfl (fun g w' hc => hc) (fun g w' _ hc => exec_load_row _ rfl rfl (hc.1)) ?_
  refine lex_call (f := 33) (args := #[.agg (bf (bitF (a * M64 + b)))]) (v := .int .i64 (blen (wv a b))) rfl (fun w' => exec_call (by kernel_rfl) rfl rfl) (fun g w' _ hc => ?_) ?_
  · refine (len_any (a * M64 + b) w' p0 p1).mono ?_
    rintro e w'' ⟨rfl, hb⟩
    exact ⟨rfl, hc.below hb⟩
  simp only [Act.put, List.setIfInBounds_toArray, List.set_cons_zero, List.set_cons_succ]
  refine lex_val (v := .bool true) rfl (fun g w' hc => hc) (fun g w' _ hc => by clear hc; go_simp) ?_
  refine lex_val (v := .bool true) rfl (fun g w' hc => hc) (fun g w' _ _ => exec_pick (b := true) _ _ _ rfl rfl rfl) ?_
  refine lex_val rfl (fun g w' hc => hc) (fun g w' _ _ => exec_move _ rfl rfl) ?_
  simp only [Act.put, List.setIfInBounds_toArray, List.set_cons_zero, List.set_cons_succ]
  refine lex_call (f := 26) (args := #[]) (v := .bool true) rfl (fun w' => exec_call (by kernel_rfl) rfl rfl) (fun g w' _ hc => ?_) ?_
  · refine (alive_any w').mono ?_
    rintro e w'' ⟨rfl, hb⟩
    exact ⟨rfl, hc.below hb⟩
  refine lex_val (v := .bool true) rfl (fun g w' hc => hc) (fun g w' _ _ => exec_pick (b := true) _ _ _ rfl rfl rfl) ?_
  refine lex_val rfl (fun g w' hc => hc) (fun g w' _ _ => exec_assign _ rfl rfl) ?_
  simp only [Act.put, List.setIfInBounds_toArray, List.set_cons_zero, List.set_cons_succ]
  refine lex_nil ?_
  rintro w' hc
  have hB := hide hc.2.2
  clear hc
  go_wp2
  go_ret
  exact ⟨rfl, B1.out.trans (hB.out.mono B1.out.size)⟩
end Go.Proofs.Ytadilccdipcmnaa
