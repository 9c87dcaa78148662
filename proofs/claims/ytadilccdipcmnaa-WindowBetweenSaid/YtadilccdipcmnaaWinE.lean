/- The program's window: the trades that are too old leave. Arguments: any window of at most 300 trades. -/
import Derived.Test.YtadilccdipcmnaaWinD
import Derived.WalkMore
import Derived.Deep.LoopGhost
namespace Go.Proofs.Ytadilccdipcmnaa
open Go Go.RowKit

/-- A window, one of its trades in a variable. -/
structure StC (w0 : World) (p k tb n : Nat) (A B C D sl X Y Z t0 t1 t2 t3 : Value) (xs : List Value) (w : World) : Prop where
  P : PBlk w p A B C D sl X Y Z
  T : TBlk w tb t0 t1 t2 t3
  S : Seg w 138 4 sl k n xs
  K : Keeps (fun b => b = p) w0 w
theorem StC.drew {w0 w : World} {p k tb n : Nat} {A B C D sl X Y Z t0 t1 t2 t3 : Value} {xs : List Value} (h : StC w0 p k tb n A B C D sl X Y Z t0 t1 t2 t3 xs w) : StC w0 p k tb n A B C D sl X Y Z t0 t1 t2 t3 xs w.drew := ⟨h.P, h.T, h.S, h.K.drew⟩
/-- What a region that stores into a window keeps: i is the store's number. -/
structure SubC (w0 : World) (p k tb n : Nat) (A B C D sl X Y Z X' Y' Z' t0 t1 t2 t3 : Value) (xs : List Value) (i : Nat) (g : Nat → Bool) (w : World) : Prop where
  P : ∃ x y z, PBlk w p A B C D sl x y z ∧ (g i = false → x = X ∧ y = Y ∧ z = Z) ∧ (g i = true → x = X' ∧ y = Y' ∧ z = Z')
  T : TBlk w tb t0 t1 t2 t3
  S : Seg w 138 4 sl k n xs
  K : Keeps (fun b => b = p) w0 w
section
variable {w0 w w' : World} {p k tb n : Nat} {A B C D sl X Y Z X' Y' Z' t0 t1 t2 t3 : Value} {xs : List Value} {i : Nat} {g : Nat → Bool}
theorem SubC.drew (h : SubC w0 p k tb n A B C D sl X Y Z X' Y' Z' t0 t1 t2 t3 xs i g w) : SubC w0 p k tb n A B C D sl X Y Z X' Y' Z' t0 t1 t2 t3 xs i g w.drew := ⟨h.P, h.T, h.S, h.K.drew⟩
theorem SubC.below (h : SubC w0 p k tb n A B C D sl X Y Z X' Y' Z' t0 t1 t2 t3 xs i g w) (hb : Below w.heap.size w w') : SubC w0 p k tb n A B C D sl X Y Z X' Y' Z' t0 t1 t2 t3 xs i g w' := by
  obtain ⟨⟨x, y, z, hP, h1, h2⟩, hT, hS, hK⟩ := h
  exact ⟨⟨x, y, z, hP.below hb hP.lt, h1, h2⟩, hT.below hb hT.lt, hS.keep (Keeps.of_below (S := fun _ => False) hb) (fun h => h), hK.trans (Keeps.of_below hb)⟩
theorem SubC.mark (h : SubC w0 p k tb n A B C D sl X Y Z X' Y' Z' t0 t1 t2 t3 xs i g w) {j : Nat} (hj : i ≠ j) : SubC w0 p k tb n A B C D sl X Y Z X' Y' Z' t0 t1 t2 t3 xs i (mark g j) w := by
  obtain ⟨⟨x, y, z, hP, h1, h2⟩, hT, hS, hK⟩ := h
  have e : Ytadilccdipcmnaa.mark g j i = g i := by simp [Ytadilccdipcmnaa.mark, hj]
  exact ⟨⟨x, y, z, hP, by rw [e]; exact h1, by rw [e]; exact h2⟩, hT, hS, hK⟩
end
/-- The trades behind tick c, where they stand in order. -/
def dropW (c : Int) : List Trd → List Trd
  | [] => []
  | t :: l => if t.1 ≤ c then dropW c l else t :: l
set_option maxRecDepth 100000 in
set_option maxHeartbeats 4000000 in
theorem leave_any (p k : Nat) (sp g r la tick : Int) (L : List Trd) (w : World) (h : PWin w p k sp g r la L) (hL : ∀ t ∈ L, okT t) (hl : L.length ≤ 300) (ht : 0 ≤ tick ∧ tick ≤ 1152921504606846976) (hs : 1 ≤ sp ∧ sp ≤ 1099511627776) :
    Calls Try.prog 128 #[.pointer (some ⟨p, 0, none⟩), .int .i64 tick] w fun e w' => e = .returned (.tuple #[]) ∧ PWin w' p k sp g r la (dropW (tick - sp) L) ∧ Keeps (fun b => b = p) w w' := by
  have H0 := hide h
  have HL := hide hL
  have Hl := hide hl
  obtain ⟨t0, t1⟩ := ht
  obtain ⟨s0, s1⟩ := hs
  clear h hL hl
  go_enter Try.func128, Try.ntmps128
  go_wp2
  go_step3
  go_wp2
  go_step3
  go_wp2
  go_loopg [] L.length (fun m wr => ∃ M : List Trd, m = M.length ∧ PWin wr p k sp g r la M ∧ dropW (tick - sp) M = dropW (tick - sp) L ∧ (∀ t ∈ M, okT t) ∧ M.length ≤ 300 ∧ Keeps (fun b => b = p) w wr)
  case atStart => exact ⟨L, rfl, H0.out, rfl, HL.out, Hl.out, Keeps.refl _ _⟩
  case round =>
    obtain ⟨M, rfl, hW, hD, hM, hl, hK⟩ := hrel
    have HD := hide hD
    have HM := hide hM
    have HK := hide hK
    have Hl2 := hide hl
    clear hD hM hK hl
    cases M with
    | nil =>
      obtain ⟨sl, hP, hS, hk⟩ := hW
      have HW : Hid (PWin wr p k sp g r la []) := hide ⟨sl, hP, hS, hk⟩
      obtain ⟨ad, cap, rfl⟩ := hS.len
      have c4 := hP.cell 4 rfl
      clear hP hS hk
      go_wp2
      simp only [Exit.noGoto]
      go_end0
      exact ⟨rfl, by rw [← HD.out]; exact HW.out, HK.out⟩
    | cons t M =>
      obtain ⟨sl, hP, hS, hk⟩ := hW
      have HP := hide hP
      have HS := hide hS
      obtain ⟨off, cap, cur, rfl, h4, h5, h6, h7, h8, h9⟩ := hS.open
      have c4 := hP.cell 4 rfl
      have d0 : wr.cell? ⟨k, off, none⟩ = some (.int .i64 t.1) := h9 0 (.int .i64 t.1) rfl
      have d1 := h9 1 (.int .i64 t.2.2) rfl
      have d2 := h9 2 (.int .u64 (t.2.1 * t.2.2 / M64)) rfl
      have d3 := h9 3 (.int .u64 (t.2.1 * t.2.2 % M64)) rfl
      have c0 := (hP.alloc (.cells #[.int .i64 t.1, .int .i64 t.2.2, .int .u64 (t.2.1 * t.2.2 / M64), .int .u64 (t.2.1 * t.2.2 % M64)] 138)).cell 0 rfl
      have T0 : TBlk (wr.alloc (.cells #[.int .i64 t.1, .int .i64 t.2.2, .int .u64 (t.2.1 * t.2.2 / M64), .int .u64 (t.2.1 * t.2.2 % M64)] 138)) wr.heap.size (.int .i64 t.1) (.int .i64 t.2.2) (.int .u64 (t.2.1 * t.2.2 / M64)) (.int .u64 (t.2.1 * t.2.2 % M64)) := TBlk.new' rfl
      have e0 := T0.cell 0 rfl
      clear h4 h8 h9 hP T0
      obtain ⟨hi, hhi⟩ : ∃ x, x = t.2.1 * t.2.2 / M64 := ⟨_, rfl⟩
      obtain ⟨lo, hlo⟩ : ∃ x, x = t.2.1 * t.2.2 % M64 := ⟨_, rfl⟩
      rw [← hhi] at d2 c0 e0
      rw [← hlo] at d3 c0 e0
      have HHI := hide hhi
      have HLO := hide hlo
      clear hhi hlo
      obtain ⟨a, ha⟩ : ∃ a, a = t.1 := ⟨_, rfl⟩
      obtain ⟨q, hq⟩ : ∃ q, q = t.2.2 := ⟨_, rfl⟩
      rw [← ha] at d0 c0 e0
      rw [← hq] at d1 c0 e0
      have HA := hide ha
      have HQ := hide hq
      clear ha hq hS hk
      obtain ⟨W, hW'⟩ : ∃ x, x = wSum (t :: M) := ⟨_, rfl⟩
      obtain ⟨Q, hQ'⟩ : ∃ x, x = qSum (t :: M) := ⟨_, rfl⟩
      rw [← hW', ← hQ'] at HP
      have HW := hide hW'
      have HQ2 := hide hQ'
      clear hW' hQ'
      go_wp2
      have hC : StC w p k wr.heap.size (M.length + 1) (.int .i64 sp) (.int .i64 g) (.int .i64 r) (.int .i64 la) (.slice (some ⟨k, off, none⟩) (M.length + 1) cap) (.int .u64 (W / M64)) (.int .u64 (W % M64)) (.int .i64 Q) (.int .i64 a) (.int .i64 q) (.int .u64 hi) (.int .u64 lo) (pCells (t :: M)) (wr.alloc (.cells #[.int .i64 a, .int .i64 q, .int .u64 hi, .int .u64 lo] 138)) :=
        ⟨HP.out.alloc _, TBlk.new' rfl, HS.out.keep (S := fun _ => False) ((Keeps.refl _ _).alloc _) (fun h => h), HK.out.alloc _⟩
      clear d0 d1 d2 d3 c0 c4 e0
      refine wp_region_drawn3 (fun _ w' => StC w p k wr.heap.size (M.length + 1) (.int .i64 sp) (.int .i64 g) (.int .i64 r) (.int .i64 la) (.slice (some ⟨k, off, none⟩) (M.length + 1) cap) (.int .u64 (W / M64)) (.int .u64 (W % M64)) (.int .i64 Q) (.int .i64 a) (.int .i64 q) (.int .u64 hi) (.int .u64 lo) (pCells (t :: M)) w') mixed (by kernel_rfl) hC.drew ?_
      clear hC
      refine lex3_val (v := .pointer (some ⟨wr.heap.size, 0, none⟩)) rfl (fun g w' hc => hc) (fun g w' hg hc => by clear hc hg; go_simp) ?_
      refine lex3_val (v := .int .i64 a) rfl (fun g w' hc => hc) (fun g w' hg hc => by have d := hc.T.cell 0 rfl; clear hc hg; go_simp) ?_
      simp only [Act.put, List.setIfInBounds_toArray, List.set_cons_zero, List.set_cons_succ]
      refine lex3_val (v := .int .i64 tick) rfl (fun g w' hc => hc) (fun g w' hg hc => exec_move _ rfl rfl) ?_
      refine lex3_val (v := .pointer (some ⟨p, 0, none⟩)) rfl (fun g w' hc => hc) (fun g w' hg hc => exec_move _ rfl rfl) ?_
      simp only [Act.put, List.setIfInBounds_toArray, List.set_cons_zero, List.set_cons_succ]
      refine lex3_val (v := .pointer (some ⟨p, 0, none⟩)) rfl (fun g w' hc => hc) (fun g w' hg hc => by clear hc hg; go_simp) ?_
      refine lex3_val (v := .pointer (some ⟨p, 0, none⟩)) rfl (fun g w' hc => hc) (fun g w' hg hc => by clear hc hg; go_simp) ?_
      simp only [Act.put, List.setIfInBounds_toArray, List.set_cons_zero, List.set_cons_succ]
      refine lex3_val (v := .int .i64 sp) rfl (fun g w' hc => hc) (fun g w' hg hc => by have d := hc.P.cell 0 rfl; clear hc hg; go_simp) ?_
      refine lex3_val (v := .int .i64 (tick - sp)) rfl (fun g w' hc => hc) (fun g w' hg hc => by clear hc hg; go_simp; rw [wrap_i64_id (by unfold okI; omega)]) ?_
      simp only [Act.put, List.setIfInBounds_toArray, List.set_cons_zero, List.set_cons_succ]
      refine lex3_val (v := .bool (decide (tick - sp < a))) rfl (fun g w' hc => hc) (fun g w' hg hc => by clear hc hg; go_simp) ?_
      simp only [Act.put, List.setIfInBounds_toArray, List.set_cons_zero, List.set_cons_succ]
      refine lex3_nil ?_
      intro w1 hC
      have HB : Hid (0 ≤ W % M64 ∧ 0 ≤ lo ∧ W % M64 < M64 ∧ lo < M64 ∧ (wv (W / M64) (W % M64) - wv hi lo) % M128 = wSum M ∧ (wv (W / M64) (W % M64) - wv hi lo) % M64 = wSum M % M64 ∧ decide (wv hi lo ≤ wv (W / M64) (W % M64)) = true) := hide (by
        have h1 := sums_bd (l := M) (fun x hx => HM.out x (by simp [hx]))
        have h2 := sums_bd HM.out
        have h3 := pq_bd (HM.out t (by simp))
        have h4 := Hl2.out
        have e : W = t.2.1 * t.2.2 + wSum M := HW.out
        rw [HLO.out, HHI.out, wv_split, wv_split]
        simp only [List.length_cons] at h2 h4
        rw [← HW.out] at h2
        generalize t.2.1 * t.2.2 = x at *
        have e1 : W - x = wSum M := by omega
        rw [e1]
        refine ⟨?_, ?_, ?_, ?_, Int.emod_eq_of_lt (by omega) ?_, rfl, decide_eq_true (by omega)⟩ <;> (try rw [M64_eq]) <;> (try rw [M128_eq]) <;> omega)
      have HB2 : Hid (0 ≤ q ∧ q ≤ Q ∧ Q ≤ 1288490188800) := hide (by
        have h1 := sums_bd (l := M) (fun x hx => HM.out x (by simp [hx]))
        have h2 := sums_bd HM.out
        have h3 := (HM.out t (by simp)).2.2
        have h4 := Hl2.out
        have e : Q = t.2.2 + qSum M := HQ2.out
        rw [HQ.out, e]
        rw [← HQ2.out] at h2
        simp only [List.length_cons] at h2 h4
        omega)
      obtain ⟨W2, hW2⟩ : ∃ x, x = wSum M := ⟨_, rfl⟩
      rw [← hW2] at HB
      have HW4 := hide hW2
      have HQ3 : Hid (Q - q = qSum M) := hide (by rw [HQ2.out, HQ.out]; simp [qSum]; omega)
      clear hW2
      by_cases hc : a ≤ tick - sp
      · have HDR : Hid (dropW (tick - sp) (t :: M) = dropW (tick - sp) M) := hide (by rw [HA.out] at hc; simp [dropW, hc])
        have HC := hide hC
        clear hC
        by_cases hcap : cap = 1
        · subst hcap
          have HM0 : Hid (M.length = 0) := hide (by omega)
          have P1 := HC.out.P
          have c4 := P1.cell 4 rfl
          have f4 := P1.free 4
          have hkp := PBlk.apart P1 HC.out.S (by simp)
          have hx : Keeps (fun b => b = p) w1 (w1.setCell ⟨p, 4, none⟩ (.slice (some ⟨k, off, none⟩) 0 0)) := (Keeps.refl _ _).setCell _ _ (.inl rfl)
          have hC4 : SubC w p k wr.heap.size 0 (.int .i64 sp) (.int .i64 g) (.int .i64 r) (.int .i64 la) (.slice (some ⟨k, off, none⟩) 0 0) (.int .u64 (W / M64)) (.int .u64 (W % M64)) (.int .i64 Q) (.int .u64 (W2 / M64)) (.int .u64 (W2 % M64)) (.int .i64 Q) (.int .i64 a) (.int .i64 q) (.int .u64 hi) (.int .u64 lo) (pCells M) 13 (fun _ => false) (w1.setCell ⟨p, 4, none⟩ (.slice (some ⟨k, off, none⟩) 0 0)) := by
            obtain ⟨off', cap', cur', he, g4, g5, g6, g7, g8, -⟩ := HC.out.S.open
            obtain ⟨e1, e2⟩ : off = off' ∧ 1 = cap' := by simpa using he
            subst e1
            subst e2
            have hs0 := Seg.tail (n := M.length) (pCells_len (t :: M)) g4 g5 g6 g7 g8 (off) (.inr ⟨rfl, rfl⟩)
            exact ⟨⟨_, _, _, P1.set4 _, fun _ => ⟨rfl, rfl, rfl⟩, fun h => by cases h⟩, HC.out.T.keep hx (fun h => by have h2 := P1; have h3 := HC.out.T; unfold PBlk at h2; unfold TBlk at h3; rw [h] at h3; rw [h2] at h3; simp at h3), Seg.keep (by first | exact hs0 | (rw [HM0.out] at hs0; exact hs0)) hx hkp, HC.out.K.setCell _ _ (.inl rfl)⟩
          have HC4 := hide hC4
          clear hC4 hx hkp P1
          go_wp2
          refine wp_region_drawn3 (fun g' w' => SubC w p k wr.heap.size 0 (.int .i64 sp) (.int .i64 g) (.int .i64 r) (.int .i64 la) (.slice (some ⟨k, off, none⟩) 0 0) (.int .u64 (W / M64)) (.int .u64 (W % M64)) (.int .i64 Q) (.int .u64 (W2 / M64)) (.int .u64 (W2 % M64)) (.int .i64 Q) (.int .i64 a) (.int .i64 q) (.int .u64 hi) (.int .u64 lo) (pCells M) 13 g' w') mixed (by kernel_rfl) HC4.out.drew ?_
          clear HC4 HC c4 f4
          refine lex3_val (v := .pointer (some ⟨p, 0, none⟩)) rfl (fun g w' hc => hc.mark (by decide)) (fun g w' hg hc => exec_move _ rfl rfl) ?_
          refine lex3_val (v := .pointer (some ⟨p, 0, none⟩)) rfl (fun g w' hc => hc.mark (by decide)) (fun g w' hg hc => exec_move _ rfl rfl) ?_
          simp only [Act.put, List.setIfInBounds_toArray, List.set_cons_zero, List.set_cons_succ]
          refine lex3_val (v := .pointer (some ⟨p, 0, none⟩)) rfl (fun g w' hc => hc.mark (by decide)) (fun g w' hg hc => by clear hc hg; go_simp) ?_
          refine lex3_val (v := .pointer (some ⟨p, 5, none⟩)) rfl (fun g w' hc => hc.mark (by decide)) (fun g w' hg hc => by clear hc hg; go_simp) ?_
          simp only [Act.put, List.setIfInBounds_toArray, List.set_cons_zero, List.set_cons_succ]
          refine lex3_val (v := .agg #[.int .u64 (W / M64), .int .u64 (W % M64)]) rfl (fun g w' hc => hc.mark (by decide)) (fun g w' hg hc => by obtain ⟨x, y, z, hT, h1, -⟩ := hc.P; obtain ⟨rfl, rfl, rfl⟩ := h1 (hg.1 13 (by kernel_rfl)); have c5 := hT.cell 5 rfl; have c6 := hT.cell 6 rfl; clear hT h1 hc hg; go_simp) ?_
          refine lex3_val (v := .pointer (some ⟨wr.heap.size, 2, none⟩)) rfl (fun g w' hc => hc.mark (by decide)) (fun g w' hg hc => by clear hc hg; go_simp) ?_
          simp only [Act.put, List.setIfInBounds_toArray, List.set_cons_zero, List.set_cons_succ]
          refine lex3_val (v := .agg #[.int .u64 hi, .int .u64 lo]) rfl (fun g w' hc => hc.mark (by decide)) (fun g w' hg hc => by have d2 := hc.T.cell 2 rfl; have d3 := hc.T.cell 3 rfl; clear hc hg; go_simp) ?_
          refine lex3_call (f := 59) (args := #[.agg #[.int .u64 (W / M64), .int .u64 (W % M64)], .agg #[.int .u64 hi, .int .u64 lo]]) (v := .tuple #[.agg #[.int .u64 (W2 / M64), .int .u64 (W2 % M64)], .bool true]) rfl (fun w' => exec_call (by kernel_rfl) rfl rfl) (fun g w' hg hc => ?_) ?_
          · refine (wsub_any (W / M64) (W % M64) hi lo w' HB.out.1 HB.out.2.1 HB.out.2.2.1 HB.out.2.2.2.1).mono ?_
            rintro e w'' ⟨rfl, hb⟩
            exact ⟨by rw [HB.out.2.2.2.2.1, HB.out.2.2.2.2.2.1, HB.out.2.2.2.2.2.2], (hc.below hb).mark (by decide)⟩
          simp only [Act.put, List.setIfInBounds_toArray, List.set_cons_zero, List.set_cons_succ]
          refine lex3_val (v := .tuple #[.agg #[.int .u64 (W2 / M64), .int .u64 (W2 % M64)], .bool true]) rfl (fun g w' hc => hc.mark (by decide)) (fun g w' hg hc => exec_move _ rfl rfl) ?_
          refine lex3_val (v := .agg #[.int .u64 (W2 / M64), .int .u64 (W2 % M64)]) rfl (fun g w' hc => hc.mark (by decide)) (fun g w' hg hc => exec_extract _ _ rfl rfl rfl) ?_
          simp only [Act.put, List.setIfInBounds_toArray, List.set_cons_zero, List.set_cons_succ]
          refine lex3_val (v := .bool true) rfl (fun g w' hc => hc.mark (by decide)) (fun g w' hg hc => exec_extract _ _ rfl rfl rfl) ?_
          refine lex3_val (v := .pointer (some ⟨p, 0, none⟩)) rfl (fun g w' hc => hc.mark (by decide)) (fun g w' hg hc => by clear hc hg; go_simp) ?_
          simp only [Act.put, List.setIfInBounds_toArray, List.set_cons_zero, List.set_cons_succ]
          refine lex3_val (v := .pointer (some ⟨p, 5, none⟩)) rfl (fun g w' hc => hc.mark (by decide)) (fun g w' hg hc => by clear hc hg; go_simp) ?_
          refine lex3_put rfl (fun g w' hg hc => ?_) ?_
          · obtain ⟨x, y, z, hT, h1, -⟩ := hc.P
            obtain ⟨rfl, rfl, rfl⟩ := h1 hg.2.2
            have c5 := hT.cell 5 rfl
            have c6 := hT.cell 6 rfl
            have f5 := hT.free 5
            have f6 := hT.free 6
            have hkp : k ≠ p := PBlk.apart hT hc.S (by simp)
            have htp : ¬ wr.heap.size = p := fun h => by have h2 := hT; have h3 := hc.T; unfold PBlk at h2; unfold TBlk at h3; rw [h] at h3; rw [h2] at h3; simp at h3
            have hx : Keeps (fun b => b = p) w' ((w'.setCell ⟨p, 5, none⟩ (.int .u64 (W2 / M64))).setCell ⟨p, 6, none⟩ (.int .u64 (W2 % M64))) := ((Keeps.refl (fun b => b = p) w').setCell ⟨p, 5, none⟩ _ (.inl rfl)).setCell ⟨p, 6, none⟩ _ (.inl rfl)
            have P2 := (hT.set5 (.int .u64 (W2 / M64))).set6 (.int .u64 (W2 % M64))
            have e6 := (hT.set5 (.int .u64 (W2 / M64))).cell 6 rfl
            have g6 := (hT.set5 (.int .u64 (W2 / M64))).free 6
            refine ⟨(w'.setCell ⟨p, 5, none⟩ (.int .u64 (W2 / M64))).setCell ⟨p, 6, none⟩ (.int .u64 (W2 % M64)), by clear hx P2 hT h1 hc hg hkp htp; go_simp, ⟨_, _, _, P2, (fun h => by simp [mark] at h), fun _ => ⟨rfl, rfl, rfl⟩⟩, hc.T.keep hx htp, hc.S.keep hx hkp, hc.K.trans hx⟩
          simp only [Act.put]
          refine lex3_nil ?_
          intro w2 hC
          obtain ⟨x, y, z, P2, -, h2⟩ := hC.P
          obtain ⟨rfl, rfl, rfl⟩ := h2 rfl
          have hC5 : SubC w p k wr.heap.size 0 (.int .i64 sp) (.int .i64 g) (.int .i64 r) (.int .i64 la) (.slice (some ⟨k, off, none⟩) 0 0) (.int .u64 (W2 / M64)) (.int .u64 (W2 % M64)) (.int .i64 Q) (.int .u64 (W2 / M64)) (.int .u64 (W2 % M64)) (.int .i64 (Q - q)) (.int .i64 a) (.int .i64 q) (.int .u64 hi) (.int .u64 lo) (pCells M) 9 (fun _ => false) w2 := ⟨⟨_, _, _, P2, fun _ => ⟨rfl, rfl, rfl⟩, fun h => by cases h⟩, hC.T, hC.S, hC.K⟩
          clear h2 hC P2
          go_wp2
          refine wp_region_drawn3 (fun g' w' => SubC w p k wr.heap.size 0 (.int .i64 sp) (.int .i64 g) (.int .i64 r) (.int .i64 la) (.slice (some ⟨k, off, none⟩) 0 0) (.int .u64 (W2 / M64)) (.int .u64 (W2 % M64)) (.int .i64 Q) (.int .u64 (W2 / M64)) (.int .u64 (W2 % M64)) (.int .i64 (Q - q)) (.int .i64 a) (.int .i64 q) (.int .u64 hi) (.int .u64 lo) (pCells M) 9 g' w') mixed (by kernel_rfl) hC5.drew ?_
          clear hC5
          refine lex3_val (v := .pointer (some ⟨p, 0, none⟩)) rfl (fun g w' hc => hc.mark (by decide)) (fun g w' hg hc => exec_move _ rfl rfl) ?_
          refine lex3_val (v := .pointer (some ⟨p, 0, none⟩)) rfl (fun g w' hc => hc.mark (by decide)) (fun g w' hg hc => by clear hc hg; go_simp) ?_
          simp only [Act.put, List.setIfInBounds_toArray, List.set_cons_zero, List.set_cons_succ]
          refine lex3_val (v := .pointer (some ⟨p, 7, none⟩)) rfl (fun g w' hc => hc.mark (by decide)) (fun g w' hg hc => by clear hc hg; go_simp) ?_
          refine lex3_val (v := .int .i64 Q) rfl (fun g w' hc => hc.mark (by decide)) (fun g w' hg hc => by obtain ⟨x, y, z, hT, h1, -⟩ := hc.P; obtain ⟨rfl, rfl, rfl⟩ := h1 (hg.1 9 (by kernel_rfl)); have c7 := hT.cell 7 rfl; clear hT h1 hc hg; go_simp) ?_
          simp only [Act.put, List.setIfInBounds_toArray, List.set_cons_zero, List.set_cons_succ]
          refine lex3_val (v := .pointer (some ⟨wr.heap.size, 1, none⟩)) rfl (fun g w' hc => hc.mark (by decide)) (fun g w' hg hc => by clear hc hg; go_simp) ?_
          refine lex3_val (v := .int .i64 q) rfl (fun g w' hc => hc.mark (by decide)) (fun g w' hg hc => by have d1 := hc.T.cell 1 rfl; clear hc hg; go_simp) ?_
          simp only [Act.put, List.setIfInBounds_toArray, List.set_cons_zero, List.set_cons_succ]
          refine lex3_val (v := .int .i64 (Q - q)) rfl (fun g w' hc => hc.mark (by decide)) (fun g w' hg hc => by clear hc hg; go_simp; rw [wrap_i64_id (by have := HB2.out; unfold okI; omega)]) ?_
          refine lex3_val (v := .pointer (some ⟨p, 0, none⟩)) rfl (fun g w' hc => hc.mark (by decide)) (fun g w' hg hc => by clear hc hg; go_simp) ?_
          simp only [Act.put, List.setIfInBounds_toArray, List.set_cons_zero, List.set_cons_succ]
          refine lex3_val (v := .pointer (some ⟨p, 7, none⟩)) rfl (fun g w' hc => hc.mark (by decide)) (fun g w' hg hc => by clear hc hg; go_simp) ?_
          refine lex3_put rfl (fun g w' hg hc => ?_) ?_
          · obtain ⟨x, y, z, hT, h1, -⟩ := hc.P
            obtain ⟨rfl, rfl, rfl⟩ := h1 hg.2.2
            have c7 := hT.cell 7 rfl
            have f7 := hT.free 7
            have hkp : k ≠ p := PBlk.apart hT hc.S (by simp)
            have htp : ¬ wr.heap.size = p := fun h => by have h2 := hT; have h3 := hc.T; unfold PBlk at h2; unfold TBlk at h3; rw [h] at h3; rw [h2] at h3; simp at h3
            have hx : Keeps (fun b => b = p) w' (w'.setCell ⟨p, 7, none⟩ (.int .i64 (Q - q))) := (Keeps.refl _ _).setCell _ _ (.inl rfl)
            refine ⟨w'.setCell ⟨p, 7, none⟩ (.int .i64 (Q - q)), by clear hx h1 hc hg hkp htp hT; go_simp, ⟨_, _, _, hT.set7 _, (fun h => by simp [mark] at h), fun _ => ⟨rfl, rfl, rfl⟩⟩, hc.T.keep hx htp, hc.S.keep hx hkp, hc.K.trans hx⟩
          simp only [Act.put]
          refine lex3_nil ?_
          intro w3 hC
          obtain ⟨x, y, z, P3, -, h2⟩ := hC.P
          obtain ⟨rfl, rfl, rfl⟩ := h2 rfl
          have HW3 : Hid (PWin w3 p k sp g r la M ∧ Keeps (fun b => b = p) w w3) := hide ⟨⟨_, by rw [← HQ3.out, ← HW4.out]; exact P3, by first | exact hC.S | (rw [HM0.out]; exact hC.S), fun h => by cases h⟩, hC.K⟩
          clear h2 hC P3
          go_wp2
          go_roundg M.length
          case measure => simp
          case rel => exact ⟨M, rfl, HW3.out.1, by rw [← HD.out]; exact HDR.out.symm, fun x hx => HM.out x (by simp [hx]), by have := Hl2.out; simp at this; omega, HW3.out.2⟩
        · have HM0 : Hid (M.length = M.length) := hide rfl
          have P1 := HC.out.P
          have c4 := P1.cell 4 rfl
          have f4 := P1.free 4
          have hkp := PBlk.apart P1 HC.out.S (by simp)
          have hx : Keeps (fun b => b = p) w1 (w1.setCell ⟨p, 4, none⟩ (.slice (some ⟨k, off + 4, none⟩) M.length (cap - 1))) := (Keeps.refl _ _).setCell _ _ (.inl rfl)
          have hC4 : SubC w p k wr.heap.size M.length (.int .i64 sp) (.int .i64 g) (.int .i64 r) (.int .i64 la) (.slice (some ⟨k, off + 4, none⟩) M.length (cap - 1)) (.int .u64 (W / M64)) (.int .u64 (W % M64)) (.int .i64 Q) (.int .u64 (W2 / M64)) (.int .u64 (W2 % M64)) (.int .i64 Q) (.int .i64 a) (.int .i64 q) (.int .u64 hi) (.int .u64 lo) (pCells M) 13 (fun _ => false) (w1.setCell ⟨p, 4, none⟩ (.slice (some ⟨k, off + 4, none⟩) M.length (cap - 1))) := by
            obtain ⟨off', cap', cur', he, g4, g5, g6, g7, g8, -⟩ := HC.out.S.open
            obtain ⟨e1, e2⟩ : off = off' ∧ cap = cap' := by simpa using he
            subst e1
            subst e2
            have hs0 := Seg.tail (n := M.length) (pCells_len (t :: M)) g4 g5 g6 g7 g8 (off + 4) (.inl rfl)
            exact ⟨⟨_, _, _, P1.set4 _, fun _ => ⟨rfl, rfl, rfl⟩, fun h => by cases h⟩, HC.out.T.keep hx (fun h => by have h2 := P1; have h3 := HC.out.T; unfold PBlk at h2; unfold TBlk at h3; rw [h] at h3; rw [h2] at h3; simp at h3), Seg.keep (by first | exact hs0 | (rw [HM0.out] at hs0; exact hs0)) hx hkp, HC.out.K.setCell _ _ (.inl rfl)⟩
          have HC4 := hide hC4
          clear hC4 hx hkp P1
          go_wp2
          refine wp_region_drawn3 (fun g' w' => SubC w p k wr.heap.size M.length (.int .i64 sp) (.int .i64 g) (.int .i64 r) (.int .i64 la) (.slice (some ⟨k, off + 4, none⟩) M.length (cap - 1)) (.int .u64 (W / M64)) (.int .u64 (W % M64)) (.int .i64 Q) (.int .u64 (W2 / M64)) (.int .u64 (W2 % M64)) (.int .i64 Q) (.int .i64 a) (.int .i64 q) (.int .u64 hi) (.int .u64 lo) (pCells M) 13 g' w') mixed (by kernel_rfl) HC4.out.drew ?_
          clear HC4 HC c4 f4
          refine lex3_val (v := .pointer (some ⟨p, 0, none⟩)) rfl (fun g w' hc => hc.mark (by decide)) (fun g w' hg hc => exec_move _ rfl rfl) ?_
          refine lex3_val (v := .pointer (some ⟨p, 0, none⟩)) rfl (fun g w' hc => hc.mark (by decide)) (fun g w' hg hc => exec_move _ rfl rfl) ?_
          simp only [Act.put, List.setIfInBounds_toArray, List.set_cons_zero, List.set_cons_succ]
          refine lex3_val (v := .pointer (some ⟨p, 0, none⟩)) rfl (fun g w' hc => hc.mark (by decide)) (fun g w' hg hc => by clear hc hg; go_simp) ?_
          refine lex3_val (v := .pointer (some ⟨p, 5, none⟩)) rfl (fun g w' hc => hc.mark (by decide)) (fun g w' hg hc => by clear hc hg; go_simp) ?_
          simp only [Act.put, List.setIfInBounds_toArray, List.set_cons_zero, List.set_cons_succ]
          refine lex3_val (v := .agg #[.int .u64 (W / M64), .int .u64 (W % M64)]) rfl (fun g w' hc => hc.mark (by decide)) (fun g w' hg hc => by obtain ⟨x, y, z, hT, h1, -⟩ := hc.P; obtain ⟨rfl, rfl, rfl⟩ := h1 (hg.1 13 (by kernel_rfl)); have c5 := hT.cell 5 rfl; have c6 := hT.cell 6 rfl; clear hT h1 hc hg; go_simp) ?_
          refine lex3_val (v := .pointer (some ⟨wr.heap.size, 2, none⟩)) rfl (fun g w' hc => hc.mark (by decide)) (fun g w' hg hc => by clear hc hg; go_simp) ?_
          simp only [Act.put, List.setIfInBounds_toArray, List.set_cons_zero, List.set_cons_succ]
          refine lex3_val (v := .agg #[.int .u64 hi, .int .u64 lo]) rfl (fun g w' hc => hc.mark (by decide)) (fun g w' hg hc => by have d2 := hc.T.cell 2 rfl; have d3 := hc.T.cell 3 rfl; clear hc hg; go_simp) ?_
          refine lex3_call (f := 59) (args := #[.agg #[.int .u64 (W / M64), .int .u64 (W % M64)], .agg #[.int .u64 hi, .int .u64 lo]]) (v := .tuple #[.agg #[.int .u64 (W2 / M64), .int .u64 (W2 % M64)], .bool true]) rfl (fun w' => exec_call (by kernel_rfl) rfl rfl) (fun g w' hg hc => ?_) ?_
          · refine (wsub_any (W / M64) (W % M64) hi lo w' HB.out.1 HB.out.2.1 HB.out.2.2.1 HB.out.2.2.2.1).mono ?_
            rintro e w'' ⟨rfl, hb⟩
            exact ⟨by rw [HB.out.2.2.2.2.1, HB.out.2.2.2.2.2.1, HB.out.2.2.2.2.2.2], (hc.below hb).mark (by decide)⟩
          simp only [Act.put, List.setIfInBounds_toArray, List.set_cons_zero, List.set_cons_succ]
          refine lex3_val (v := .tuple #[.agg #[.int .u64 (W2 / M64), .int .u64 (W2 % M64)], .bool true]) rfl (fun g w' hc => hc.mark (by decide)) (fun g w' hg hc => exec_move _ rfl rfl) ?_
          refine lex3_val (v := .agg #[.int .u64 (W2 / M64), .int .u64 (W2 % M64)]) rfl (fun g w' hc => hc.mark (by decide)) (fun g w' hg hc => exec_extract _ _ rfl rfl rfl) ?_
          simp only [Act.put, List.setIfInBounds_toArray, List.set_cons_zero, List.set_cons_succ]
          refine lex3_val (v := .bool true) rfl (fun g w' hc => hc.mark (by decide)) (fun g w' hg hc => exec_extract _ _ rfl rfl rfl) ?_
          refine lex3_val (v := .pointer (some ⟨p, 0, none⟩)) rfl (fun g w' hc => hc.mark (by decide)) (fun g w' hg hc => by clear hc hg; go_simp) ?_
          simp only [Act.put, List.setIfInBounds_toArray, List.set_cons_zero, List.set_cons_succ]
          refine lex3_val (v := .pointer (some ⟨p, 5, none⟩)) rfl (fun g w' hc => hc.mark (by decide)) (fun g w' hg hc => by clear hc hg; go_simp) ?_
          refine lex3_put rfl (fun g w' hg hc => ?_) ?_
          · obtain ⟨x, y, z, hT, h1, -⟩ := hc.P
            obtain ⟨rfl, rfl, rfl⟩ := h1 hg.2.2
            have c5 := hT.cell 5 rfl
            have c6 := hT.cell 6 rfl
            have f5 := hT.free 5
            have f6 := hT.free 6
            have hkp : k ≠ p := PBlk.apart hT hc.S (by simp)
            have htp : ¬ wr.heap.size = p := fun h => by have h2 := hT; have h3 := hc.T; unfold PBlk at h2; unfold TBlk at h3; rw [h] at h3; rw [h2] at h3; simp at h3
            have hx : Keeps (fun b => b = p) w' ((w'.setCell ⟨p, 5, none⟩ (.int .u64 (W2 / M64))).setCell ⟨p, 6, none⟩ (.int .u64 (W2 % M64))) := ((Keeps.refl (fun b => b = p) w').setCell ⟨p, 5, none⟩ _ (.inl rfl)).setCell ⟨p, 6, none⟩ _ (.inl rfl)
            have P2 := (hT.set5 (.int .u64 (W2 / M64))).set6 (.int .u64 (W2 % M64))
            have e6 := (hT.set5 (.int .u64 (W2 / M64))).cell 6 rfl
            have g6 := (hT.set5 (.int .u64 (W2 / M64))).free 6
            refine ⟨(w'.setCell ⟨p, 5, none⟩ (.int .u64 (W2 / M64))).setCell ⟨p, 6, none⟩ (.int .u64 (W2 % M64)), by clear hx P2 hT h1 hc hg hkp htp; go_simp, ⟨_, _, _, P2, (fun h => by simp [mark] at h), fun _ => ⟨rfl, rfl, rfl⟩⟩, hc.T.keep hx htp, hc.S.keep hx hkp, hc.K.trans hx⟩
          simp only [Act.put]
          refine lex3_nil ?_
          intro w2 hC
          obtain ⟨x, y, z, P2, -, h2⟩ := hC.P
          obtain ⟨rfl, rfl, rfl⟩ := h2 rfl
          have hC5 : SubC w p k wr.heap.size M.length (.int .i64 sp) (.int .i64 g) (.int .i64 r) (.int .i64 la) (.slice (some ⟨k, off + 4, none⟩) M.length (cap - 1)) (.int .u64 (W2 / M64)) (.int .u64 (W2 % M64)) (.int .i64 Q) (.int .u64 (W2 / M64)) (.int .u64 (W2 % M64)) (.int .i64 (Q - q)) (.int .i64 a) (.int .i64 q) (.int .u64 hi) (.int .u64 lo) (pCells M) 9 (fun _ => false) w2 := ⟨⟨_, _, _, P2, fun _ => ⟨rfl, rfl, rfl⟩, fun h => by cases h⟩, hC.T, hC.S, hC.K⟩
          clear h2 hC P2
          go_wp2
          refine wp_region_drawn3 (fun g' w' => SubC w p k wr.heap.size M.length (.int .i64 sp) (.int .i64 g) (.int .i64 r) (.int .i64 la) (.slice (some ⟨k, off + 4, none⟩) M.length (cap - 1)) (.int .u64 (W2 / M64)) (.int .u64 (W2 % M64)) (.int .i64 Q) (.int .u64 (W2 / M64)) (.int .u64 (W2 % M64)) (.int .i64 (Q - q)) (.int .i64 a) (.int .i64 q) (.int .u64 hi) (.int .u64 lo) (pCells M) 9 g' w') mixed (by kernel_rfl) hC5.drew ?_
          clear hC5
          refine lex3_val (v := .pointer (some ⟨p, 0, none⟩)) rfl (fun g w' hc => hc.mark (by decide)) (fun g w' hg hc => exec_move _ rfl rfl) ?_
          refine lex3_val (v := .pointer (some ⟨p, 0, none⟩)) rfl (fun g w' hc => hc.mark (by decide)) (fun g w' hg hc => by clear hc hg; go_simp) ?_
          simp only [Act.put, List.setIfInBounds_toArray, List.set_cons_zero, List.set_cons_succ]
          refine lex3_val (v := .pointer (some ⟨p, 7, none⟩)) rfl (fun g w' hc => hc.mark (by decide)) (fun g w' hg hc => by clear hc hg; go_simp) ?_
          refine lex3_val (v := .int .i64 Q) rfl (fun g w' hc => hc.mark (by decide)) (fun g w' hg hc => by obtain ⟨x, y, z, hT, h1, -⟩ := hc.P; obtain ⟨rfl, rfl, rfl⟩ := h1 (hg.1 9 (by kernel_rfl)); have c7 := hT.cell 7 rfl; clear hT h1 hc hg; go_simp) ?_
          simp only [Act.put, List.setIfInBounds_toArray, List.set_cons_zero, List.set_cons_succ]
          refine lex3_val (v := .pointer (some ⟨wr.heap.size, 1, none⟩)) rfl (fun g w' hc => hc.mark (by decide)) (fun g w' hg hc => by clear hc hg; go_simp) ?_
          refine lex3_val (v := .int .i64 q) rfl (fun g w' hc => hc.mark (by decide)) (fun g w' hg hc => by have d1 := hc.T.cell 1 rfl; clear hc hg; go_simp) ?_
          simp only [Act.put, List.setIfInBounds_toArray, List.set_cons_zero, List.set_cons_succ]
          refine lex3_val (v := .int .i64 (Q - q)) rfl (fun g w' hc => hc.mark (by decide)) (fun g w' hg hc => by clear hc hg; go_simp; rw [wrap_i64_id (by have := HB2.out; unfold okI; omega)]) ?_
          refine lex3_val (v := .pointer (some ⟨p, 0, none⟩)) rfl (fun g w' hc => hc.mark (by decide)) (fun g w' hg hc => by clear hc hg; go_simp) ?_
          simp only [Act.put, List.setIfInBounds_toArray, List.set_cons_zero, List.set_cons_succ]
          refine lex3_val (v := .pointer (some ⟨p, 7, none⟩)) rfl (fun g w' hc => hc.mark (by decide)) (fun g w' hg hc => by clear hc hg; go_simp) ?_
          refine lex3_put rfl (fun g w' hg hc => ?_) ?_
          · obtain ⟨x, y, z, hT, h1, -⟩ := hc.P
            obtain ⟨rfl, rfl, rfl⟩ := h1 hg.2.2
            have c7 := hT.cell 7 rfl
            have f7 := hT.free 7
            have hkp : k ≠ p := PBlk.apart hT hc.S (by simp)
            have htp : ¬ wr.heap.size = p := fun h => by have h2 := hT; have h3 := hc.T; unfold PBlk at h2; unfold TBlk at h3; rw [h] at h3; rw [h2] at h3; simp at h3
            have hx : Keeps (fun b => b = p) w' (w'.setCell ⟨p, 7, none⟩ (.int .i64 (Q - q))) := (Keeps.refl _ _).setCell _ _ (.inl rfl)
            refine ⟨w'.setCell ⟨p, 7, none⟩ (.int .i64 (Q - q)), by clear hx h1 hc hg hkp htp hT; go_simp, ⟨_, _, _, hT.set7 _, (fun h => by simp [mark] at h), fun _ => ⟨rfl, rfl, rfl⟩⟩, hc.T.keep hx htp, hc.S.keep hx hkp, hc.K.trans hx⟩
          simp only [Act.put]
          refine lex3_nil ?_
          intro w3 hC
          obtain ⟨x, y, z, P3, -, h2⟩ := hC.P
          obtain ⟨rfl, rfl, rfl⟩ := h2 rfl
          have HW3 : Hid (PWin w3 p k sp g r la M ∧ Keeps (fun b => b = p) w w3) := hide ⟨⟨_, by rw [← HQ3.out, ← HW4.out]; exact P3, by first | exact hC.S | (rw [HM0.out]; exact hC.S), fun h => by cases h⟩, hC.K⟩
          clear h2 hC P3
          go_wp2
          go_roundg M.length
          case measure => simp
          case rel => exact ⟨M, rfl, HW3.out.1, by rw [← HD.out]; exact HDR.out.symm, fun x hx => HM.out x (by simp [hx]), by have := Hl2.out; simp at this; omega, HW3.out.2⟩
      · have HDR : Hid (dropW (tick - sp) (t :: M) = t :: M) := hide (by rw [HA.out] at hc; simp [dropW, hc])
        have HWN : Hid (PWin w1 p k sp g r la (t :: M) ∧ Keeps (fun b => b = p) w w1) := hide ⟨⟨_, by rw [← HW.out, ← HQ2.out]; exact hC.P, hC.S, fun h => by cases h⟩, hC.K⟩
        clear hC
        go_wp2
        (try simp only [Exit.noGoto])
        go_end0
        exact ⟨rfl, by rw [← HD.out, HDR.out]; exact HWN.out.1, HWN.out.2⟩
end Go.Proofs.Ytadilccdipcmnaa
