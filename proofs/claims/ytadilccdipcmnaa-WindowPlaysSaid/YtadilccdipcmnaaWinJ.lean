/- The reference's window: Mean. Arguments: any window of at most 300 trades. -/
import Derived.Test.YtadilccdipcmnaaWinI
namespace Go.Proofs.Ytadilccdipcmnaa
open Go Go.RowKit

/-- The trades behind tick c. -/
def keepW (c : Int) (L : List Trd) : List Trd := L.filter fun t => decide (c < t.1)
theorem rCells_get (L : List Trd) (j : Nat) (t : Trd) (h : L[j]? = some t) : (rCells L)[j * 3]? = some (.int .i64 t.1) ∧ (rCells L)[j * 3 + 1]? = some (.int .i64 t.2.1) ∧ (rCells L)[j * 3 + 2]? = some (.int .i64 t.2.2) := by
  induction L generalizing j with
  | nil => simp at h
  | cons a l ih =>
    cases j with
    | zero =>
      simp at h
      subst h
      simp [rCells, rCell]
    | succ j =>
      simp only [List.getElem?_cons_succ] at h
      have h2 := ih j h
      have e : rCells (a :: l) = rCell a ++ rCells l := by simp [rCells]
      rw [e]
      have l3 : (rCell a).length = 3 := rfl
      rw [List.getElem?_append_right (by rw [l3]; omega), List.getElem?_append_right (by rw [l3]; omega), List.getElem?_append_right (by rw [l3]; omega), l3]
      rw [show (j + 1) * 3 - 3 = j * 3 by omega, show (j + 1) * 3 + 1 - 3 = j * 3 + 1 by omega, show (j + 1) * 3 + 2 - 3 = j * 3 + 2 by omega]
      exact h2
theorem keepW_step (c : Int) (L : List Trd) (j : Nat) (t : Trd) (h : L[j]? = some t) : keepW c (L.take (j + 1)) = if c < t.1 then keepW c (L.take j) ++ [t] else keepW c (L.take j) := by
  have e : L.take (j + 1) = L.take j ++ [t] := by
    rw [List.take_add_one, h]
    rfl
  rw [e]
  unfold keepW
  rw [List.filter_append]
  by_cases hc : c < t.1
  · rw [if_pos hc]
    simp [hc]
  · rw [if_neg hc]
    simp [hc]
theorem keepW_len (c : Int) (L : List Trd) (j : Nat) : (keepW c (L.take j)).length ≤ L.length := by
  unfold keepW
  have h1 := List.length_filter_le (fun t : Trd => decide (c < t.1)) (L.take j)
  have h2 : (L.take j).length ≤ L.length := by rw [List.length_take]; omega
  omega
theorem keepW_ok {c : Int} {L : List Trd} (hL : ∀ t ∈ L, okT t) : (∀ t ∈ keepW c L, okT t) ∧ (keepW c L).length ≤ L.length := by
  unfold keepW
  exact ⟨fun t ht => hL t (List.mem_filter.1 ht).1, List.length_filter_le _ _⟩
theorem Seg.pick {w : World} {e sz : Nat} {v : Value} {k n : Nat} {xs : List Value} {B : Nat} (h : Seg w e sz v k n xs) (hv : v ≠ .slice none 0 0 → B ≤ k) (q : Nat) : ∃ k', Seg w e sz v k' n xs ∧ (v = .slice none 0 0 → k' = q) ∧ (k' = q ∨ B ≤ k') := by
  by_cases hn : v = .slice none 0 0
  · refine ⟨q, ?_, fun _ => rfl, .inl rfl⟩
    obtain ⟨h1, h2 | ⟨_, _, _, h3, _⟩⟩ := h
    · exact ⟨h1, .inl h2⟩
    · rw [hn] at h3
      cases h3
  · exact ⟨k, h, fun h => absurd h hn, .inr (hv hn)⟩
theorem Seg.at {w : World} {e sz k off n cap : Nat} {xs : List Value} (h : Seg w e sz (.slice (some ⟨k, off, none⟩) n cap) k n xs) (j i : Nat) {u : Value} (hj : xs[j + i]? = some u) : w.cell? ⟨k, off + j + i, none⟩ = some u := by
  obtain ⟨_, ⟨h2, _⟩ | ⟨off', cap', cur, h3, h4, h5, h6, h7, h8⟩⟩ := h
  · cases h2
  · obtain ⟨rfl, rfl⟩ : off = off' ∧ cap = cap' := by simpa using h3
    rw [Nat.add_assoc, cell_of_row w k (off + (j + i)) cur e (0, 0) h4]
    exact h8 _ _ hj
theorem wSum_take (M : List Trd) (j : Nat) (t : Trd) (h : M[j]? = some t) : wSum (M.take (j + 1)) = wSum (M.take j) + t.2.1 * t.2.2 ∧ qSum (M.take (j + 1)) = qSum (M.take j) + t.2.2 := by
  have e : M.take (j + 1) = M.take j ++ [t] := by
    rw [List.take_add_one, h]
    rfl
  rw [e, wSum_append, qSum_append]
  simp [wSum, qSum]
theorem take_bds {M : List Trd} (hM : ∀ t ∈ M, okT t) (hl : M.length ≤ 300) (j : Nat) : 0 ≤ wSum (M.take j) ∧ wSum (M.take j) ≤ 1416709944860893564108800 ∧ 0 ≤ qSum (M.take j) ∧ qSum (M.take j) ≤ 1288490188800 := by
  have h := sums_bd (l := M.take j) (fun t ht => hM t (List.mem_of_mem_take ht))
  have h2 : (M.take j).length ≤ M.length := by rw [List.length_take]; omega
  omega
/-- What the second loop's region keeps. -/
structure SumW (w0 : World) (q k tb : Nat) (A B C D v : Value) (n : Nat) (xs : List Value) (S S' : Int) (g : Nat → Bool) (w : World) : Prop where
  R : ∃ f, Row w tb f ∧ (g 18 = false → f = bitF S) ∧ (g 18 = true → f = bitF S')
  P : RBlk w q A B C D v
  S : Seg w 147 3 v k n xs
  K : Keeps (fun b => b = q) w0 w
section
variable {w0 w w' : World} {q k tb n : Nat} {A B C D v : Value} {xs : List Value} {S S' : Int} {g : Nat → Bool}
theorem SumW.drew (h : SumW w0 q k tb A B C D v n xs S S' g w) : SumW w0 q k tb A B C D v n xs S S' g w.drew := ⟨h.R, h.P, h.S, h.K.drew⟩
theorem SumW.below (h : SumW w0 q k tb A B C D v n xs S S' g w) (hb : Below w.heap.size w w') : SumW w0 q k tb A B C D v n xs S S' g w' := by
  obtain ⟨f, h1, h2⟩ := h.R
  exact ⟨⟨f, h1.below hb h1.lt, h2⟩, h.P.below hb h.P.lt, h.S.keep (Keeps.of_below (S := fun _ => False) hb) (fun h => h), h.K.trans (Keeps.of_below hb)⟩
theorem SumW.mark (h : SumW w0 q k tb A B C D v n xs S S' g w) {j : Nat} (hj : 18 ≠ j) : SumW w0 q k tb A B C D v n xs S S' (mark g j) w := by
  have e : Ytadilccdipcmnaa.mark g j 18 = g 18 := by simp [Ytadilccdipcmnaa.mark, hj]
  obtain ⟨f, h1, h2⟩ := h.R
  exact ⟨⟨f, h1, by rw [e]; exact h2⟩, h.P, h.S, h.K⟩
end
/-- What the first loop keeps. -/
structure KeepC (w0 : World) (q k : Nat) (A B C D sl v : Value) (n m : Nat) (xs ys : List Value) (w : World) : Prop where
  P : RBlk w q A B C D sl
  S : Seg w 147 3 sl k n xs
  K : Keeps (fun b => b = q) w0 w
  V : ∃ k', Seg w 147 3 v k' m ys ∧ (v ≠ .slice none 0 0 → w0.heap.size ≤ k')
theorem KeepC.drew {w0 w : World} {q k n m : Nat} {A B C D sl v : Value} {xs ys : List Value} (h : KeepC w0 q k A B C D sl v n m xs ys w) : KeepC w0 q k A B C D sl v n m xs ys w.drew := ⟨h.P, h.S, h.K.drew, h.V⟩
set_option maxRecDepth 100000 in
set_option maxHeartbeats 4000000 in
theorem refmean_ok (q k : Nat) (sp g r la tick : Int) (L : List Trd) (w : World) (h : RWin w q k sp g r la L) (hL : ∀ t ∈ L, okT t) (hl : L.length ≤ 300) (hs : 1 ≤ sp ∧ sp ≤ 1099511627776) (hg : 1 ≤ g ∧ g ≤ 1099511627776) (hc : comesF la tick = true) :
    Calls Try.prog 131 #[.pointer (some ⟨q, 0, none⟩), .int .i64 tick] w fun e w' => e = .returned (.tuple #[.int .i64 (meanV g (keepW (tick - sp) L)), .bool (!(keepW (tick - sp) L).isEmpty)]) ∧ (∃ k', (k' = q ∨ w.heap.size ≤ k') ∧ RWin w' q k' sp g r tick (keepW (tick - sp) L)) ∧ Keeps (fun b => b = q) w w' := by
  have ht := (of_decide_eq_true hc).2
  have HC := hide hc
  have HL := hide hL
  have Hl := hide hl
  have HG := hide hg
  obtain ⟨M, hMe⟩ : ∃ M, M = keepW (tick - sp) L := ⟨_, rfl⟩
  rw [← hMe]
  have HMe := hide hMe
  clear hMe
  obtain ⟨t0, t1⟩ := ht
  obtain ⟨s0, s1⟩ := hs
  obtain ⟨sl, hP, hSg, hk⟩ := h
  have lq := hP.lt
  have lk : sl ≠ .slice none 0 0 → k < w.heap.size := fun h => hSg.lt.resolve_left h
  have Lk := hide lk
  have c3 := hP.cell 3 rfl
  have f3 := hP.free 3
  have P1 := hide (hP.set3 (.int .i64 tick))
  have S1 := hide (hP.segSet hSg 3 (.int .i64 tick))
  clear hP hSg hk hL hc lk hg
  obtain ⟨i0, hi0, hz0, hz1, hz2⟩ := info_parts info147
  have HI := hide (And.intro hi0 (And.intro hz0 (And.intro hz1 hz2)))
  clear hi0 hz0 hz1 hz2
  go_enter Try.func131, Try.ntmps131
  go_wp2_with (fail)
  (with_reducible refine (ticks_any q la tick _ c3).mono ?_)
  rintro e w ⟨rfl, rfl⟩
  rw [HC.out]
  dsimp only
  have K1 : Hid (Keeps (fun b => b = q) w (w.setCell ⟨q, 3, none⟩ (.int .i64 tick))) := hide ((Keeps.refl (fun b => b = q) w).setCell ⟨q, 3, none⟩ _ (.inl rfl))
  go_wp2
  clear c3 f3
  go_loopw [6, 7] (fun v i wr => ∃ j : Nat, j ≤ L.length ∧ i = .int .i64 j ∧ KeepC w q k (.int .i64 sp) (.int .i64 g) (.int .i64 r) (.int .i64 tick) sl v L.length (keepW (tick - sp) (L.take j)).length (rCells L) (rCells (keepW (tick - sp) (L.take j))) wr) (fun _ i _ => L.length - (intOf i).toNat)
  case atStart => exact ⟨0, Nat.zero_le _, rfl, P1.out, S1.out, K1.out, q, Seg.nil _ _ _ _, fun h => absurd rfl h⟩
  case round =>
    obtain ⟨j, hj, rfl, hK⟩ := hrel
    obtain ⟨ad, cap, hsl⟩ := hK.S.len
    have c4 := hK.P.cell 4 rfl
    have HK := hide hK
    clear hK
    by_cases hlt : j < L.length
    · obtain ⟨t, ht⟩ : ∃ t, L[j]? = some t := ⟨L[j], by simp [hlt]⟩
      have HT := hide ht
      obtain ⟨n', hn'⟩ : ∃ n', L.length = n' + 1 := ⟨L.length - 1, by omega⟩
      obtain ⟨off, cap', cur, hv, h4, h5, h6, h7, h8, h9⟩ := (show Seg wr 147 3 sl k (n' + 1) (rCells L) from by rw [← hn']; exact HK.out.S).open
      rw [← hn'] at hv
      obtain ⟨r0, r1, r2⟩ := rCells_get L j t ht
      have d0 := h9 _ _ r0
      have d1 := h9 _ _ r1
      have d2 := h9 _ _ r2
      have Hd := hide (And.intro d0 (And.intro d1 d2))
      clear hsl h4 h5 h6 h7 h8 h9 r0 r1 r2 d0 d1 d2 ht hn'
      rw [hv] at c4
      have HV := hide hv
      clear hv
      go_wp2
      have c4' : wr.drew.cell? ⟨q, 4, none⟩ = some (.slice (some ⟨k, off, none⟩) L.length cap') := c4
      have c0' : wr.drew.cell? ⟨q, 0, none⟩ = some (.int .i64 sp) := HK.out.P.cell 0 rfl
      obtain ⟨a, ha⟩ : ∃ a, a = t.1 := ⟨_, rfl⟩
      have d0' : wr.drew.cell? ⟨k, off + j * 3, none⟩ = some (.int .i64 a) := by rw [ha]; exact Hd.out.1
      have HA := hide ha
      clear ha
      refine wp_region_drawn3 (fun _ w' => w' = wr.drew) mixed (by kernel_rfl) rfl ?_
      refine lex3_val (v := .pointer (some ⟨q, 0, none⟩)) rfl (fun g' w' hc => hc) (fun g' w' hg hc => exec_move _ rfl rfl) ?_
      refine lex3_val (v := .pointer (some ⟨q, 0, none⟩)) rfl (fun g' w' hc => hc) (fun g' w' hg hc => by subst hc; clear hg; go_simp) ?_
      simp only [Act.put, List.setIfInBounds_toArray, List.set_cons_zero, List.set_cons_succ]
      refine lex3_val (v := .pointer (some ⟨q, 4, none⟩)) rfl (fun g' w' hc => hc) (fun g' w' hg hc => by subst hc; clear hg; go_simp) ?_
      refine lex3_val (v := .slice (some ⟨k, off, none⟩) L.length cap') rfl (fun g' w' hc => hc) (fun g' w' hg hc => by subst hc; clear hg; go_simp) ?_
      simp only [Act.put, List.setIfInBounds_toArray, List.set_cons_zero, List.set_cons_succ]
      refine lex3_val (v := .int .i64 (j : Int)) rfl (fun g' w' hc => hc) (fun g' w' hg hc => exec_move _ rfl rfl) ?_
      refine lex3_val (v := .pointer (some ⟨k, off + j * 3, none⟩)) rfl (fun g' w' hc => hc) (fun g' w' hg hc => by subst hc; clear hg; go_simp) ?_
      simp only [Act.put, List.setIfInBounds_toArray, List.set_cons_zero, List.set_cons_succ]
      refine lex3_val (v := .pointer (some ⟨k, off + j * 3, none⟩)) rfl (fun g' w' hc => hc) (fun g' w' hg hc => by subst hc; clear hg; go_simp) ?_
      refine lex3_val (v := .int .i64 a) rfl (fun g' w' hc => hc) (fun g' w' hg hc => by subst hc; clear hg; go_simp) ?_
      simp only [Act.put, List.setIfInBounds_toArray, List.set_cons_zero, List.set_cons_succ]
      refine lex3_val (v := .int .i64 tick) rfl (fun g' w' hc => hc) (fun g' w' hg hc => exec_move _ rfl rfl) ?_
      refine lex3_val (v := .pointer (some ⟨q, 0, none⟩)) rfl (fun g' w' hc => hc) (fun g' w' hg hc => exec_move _ rfl rfl) ?_
      simp only [Act.put, List.setIfInBounds_toArray, List.set_cons_zero, List.set_cons_succ]
      refine lex3_val (v := .pointer (some ⟨q, 0, none⟩)) rfl (fun g' w' hc => hc) (fun g' w' hg hc => by subst hc; clear hg; go_simp) ?_
      refine lex3_val (v := .pointer (some ⟨q, 0, none⟩)) rfl (fun g' w' hc => hc) (fun g' w' hg hc => by subst hc; clear hg; go_simp) ?_
      simp only [Act.put, List.setIfInBounds_toArray, List.set_cons_zero, List.set_cons_succ]
      refine lex3_val (v := .int .i64 sp) rfl (fun g' w' hc => hc) (fun g' w' hg hc => by subst hc; clear hg; go_simp) ?_
      refine lex3_val (v := .int .i64 (tick - sp)) rfl (fun g' w' hc => hc) (fun g' w' hg hc => by subst hc; clear hg; go_simp; rw [wrap_i64_id (by unfold okI; omega)]) ?_
      simp only [Act.put, List.setIfInBounds_toArray, List.set_cons_zero, List.set_cons_succ]
      refine lex3_val (v := .bool (decide (tick - sp < a))) rfl (fun g' w' hc => hc) (fun g' w' hg hc => by subst hc; clear hg; go_simp) ?_
      simp only [Act.put, List.setIfInBounds_toArray, List.set_cons_zero, List.set_cons_succ]
      refine lex3_nil ?_
      rintro w1 rfl
      have HKd := hide HK.out.drew
      have HKS := hide (show k < w.heap.size from Lk.out (by rw [HV.out]; simp))
      have hts := HT.out
      by_cases hc : tick - sp < a
      · have HE : Hid (keepW (tick - sp) (L.take (j + 1)) = keepW (tick - sp) (L.take j) ++ [t]) := hide (by rw [keepW_step _ L j t hts, if_pos (by rw [← HA.out]; exact hc)])
        obtain ⟨pr, hpr⟩ : ∃ a, a = t.2.1 := ⟨_, rfl⟩
        obtain ⟨qt, hqt⟩ : ∃ a, a = t.2.2 := ⟨_, rfl⟩
        have d1' : wr.drew.cell? ⟨k, off + j * 3 + 1, none⟩ = some (.int .i64 pr) := by rw [hpr, Nat.add_assoc]; exact Hd.out.2.1
        have d2' : wr.drew.cell? ⟨k, off + j * 3 + 2, none⟩ = some (.int .i64 qt) := by rw [hqt, Nat.add_assoc]; exact Hd.out.2.2
        have HP2 := hide hpr
        have HQ2 := hide hqt
        obtain ⟨k0, hv0, hk0⟩ := HKd.out.V
        have HV0 := hide hv0
        have Hk0 := hide hk0
        have HLk := hide (keepW_len (tick - sp) L j)
        clear hpr hqt hts hv0 hk0
        go_wp2_with (at_builtin; refine append_seg (w := wr.drew.alloc (.cells #[.int .i64 a, .int .i64 pr, .int .i64 qt] 147)) rfl (.tmp 47) (.tmp 55) 100 rfl 147 i0 _ 3 24 Try.underlying100 HI.out.1 HI.out.2.1 HI.out.2.2.1 HI.out.2.2.2 rfl (by decide) rfl (HV0.out.keep (S := fun _ => False) ((Keeps.refl _ _).alloc _) (fun h => h)) rfl (m := 1) (news := [.int .i64 a, .int .i64 pr, .int .i64 qt]) rfl (.inr ⟨_, _, rfl, cell_of_list (heap_alloc_new wr.drew _)⟩) (by simp [Value.oneCell']) (by have := Hl.out; have := HLk.out; unfold maxLen; omega) (by have := Hl.out; have := HLk.out; omega) ?_)
        intro v2 w2 k2 hs2 hk2 hd2 hlt2 hne2
        have hR : KeepC w q k (.int .i64 sp) (.int .i64 g) (.int .i64 r) (.int .i64 tick) sl v2 L.length (keepW (tick - sp) (L.take (j + 1))).length (rCells L) (rCells (keepW (tick - sp) (L.take (j + 1)))) w2 := by
          have hq0 : ¬ (q = k0 ∧ u6 ≠ .slice none 0 0) := fun h => RBlk.apart HKd.out.P HV0.out h.2 h.1.symm
          have hkk : ¬ (k = k0 ∧ u6 ≠ .slice none 0 0) := fun h => by have h1 := Hk0.out h.2; have h2 := HKS.out; omega
          have hkS : k0 = k0 → True := fun _ => trivial
          have hsz := HKd.out.K.size
          refine ⟨(HKd.out.P.alloc _).keep hk2 (by first | exact hq0 | (intro h; exact hq0 ⟨h, by assumption⟩)), (HKd.out.S.keep (S := fun _ => False) ((Keeps.refl _ _).alloc _) (fun h => h)).keep hk2 (by first | exact hkk | (intro h; exact hkk ⟨h, by assumption⟩)), (HKd.out.K.alloc _).then hk2 (fun b hb => .inr (by rw [hb.1]; exact Hk0.out hb.2)), k2, ?_, fun _ => ?_⟩
          · rw [HE.out, rCells_append, List.length_append]
            have e : rCell t = [.int .i64 a, .int .i64 pr, .int .i64 qt] := by unfold rCell; rw [← HA.out, ← HP2.out, ← HQ2.out]
            rw [e]
            exact hs2
          · simp at hsz hd2
            rcases hd2 with h | h
            · rw [h.1]
              exact Hk0.out h.2
            · omega
        have HR := hide hR
        clear hs2 hk2 hd2 hlt2 hne2 hR c4 c4' c0' d0' d1' d2'
        go_wp2
        go_roundw
        case rel => exact ⟨j + 1, by omega, by go_num, HR.out⟩
        case measure => simp [intOf] <;> omega
      · have HE : Hid (keepW (tick - sp) (L.take (j + 1)) = keepW (tick - sp) (L.take j)) := hide (by rw [keepW_step _ L j t hts, if_neg (by rw [← HA.out]; exact hc)])
        clear hts c4 c4' c0' d0'
        go_wp2
        go_roundw
        case rel => exact ⟨j + 1, by omega, by go_num, by rw [HE.out]; exact HKd.out⟩
        case measure => simp [intOf] <;> omega
    · obtain rfl : j = L.length := by omega
      have HK2 : Hid (KeepC w q k (.int .i64 sp) (.int .i64 g) (.int .i64 r) (.int .i64 tick) sl u6 L.length (keepW (tick - sp) L).length (rCells L) (rCells (keepW (tick - sp) L)) wr) := hide (by have := HK.out; rwa [List.take_length] at this)
      obtain ⟨hM, hMl⟩ := keepW_ok (c := tick - sp) HL.out
      rw [← HMe.out] at HK2 hM hMl
      have HM := hide hM
      have HMl := hide (Nat.le_trans hMl Hl.out)
      clear hM hMl HK hlt hj
      obtain ⟨k0, hv0, hk0⟩ := HK2.out.V
      obtain ⟨k2, hv2, hn2, hq2⟩ := hv0.pick hk0 q
      obtain ⟨ad2, cap2, rfl⟩ := hv2.len
      have P2 := HK2.out.P.set4 (.slice ad2 M.length cap2)
      have S2 := HK2.out.P.segSet hv2 4 (.slice ad2 M.length cap2)
      have K2 := HK2.out.K.setCell ⟨q, 4, none⟩ (.slice ad2 M.length cap2) (.inl rfl)
      have f4 := HK2.out.P.free 4
      rw [hsl] at c4
      have Hsl := hide hsl
      have HP2 := hide P2
      have HS2 := hide S2
      have HK3 := hide K2
      have Hn2 := hide hn2
      have Hq2 := hide hq2
      clear hsl P2 S2 K2 hv0 hk0 hv2 hn2 hq2 HK2
      by_cases hn : M = []
      · subst hn
        go_wp2
        go_ret2
        exact ⟨rfl, ⟨k2, Hq2.out, _, HP2.out, HS2.out, Hn2.out⟩, HK3.out⟩
      obtain ⟨b1, b2, b3, b4, b5, b6, b7⟩ := mean_bds HM.out HMl.out hn
      have hlen : M.length ≠ 0 := fun h => hn (List.eq_nil_of_length_eq_zero h)
      have hlen2 : ((M.length : Int) == 0) = false := by simpa using hlen
      have HVm : Hid (meanV g M = max (downF (wSum M / qSum M) g) g ∧ M.isEmpty = false) := hide (by
        have : M.isEmpty = false := by cases M with | nil => exact absurd rfl hn | cons => rfl
        unfold meanV
        rw [this]
        exact ⟨rfl, rfl⟩)
      clear hn
      obtain ⟨n', hn'⟩ : ∃ n', M.length = n' + 1 := ⟨M.length - 1, by omega⟩
      obtain ⟨off, cap', cur, hv, -⟩ := (show Seg _ 147 3 (.slice ad2 M.length cap2) k2 (n' + 1) (rCells M) from by rw [← hn']; exact HS2.out).open
      obtain ⟨rfl, -, -⟩ : ad2 = some ⟨k2, off, none⟩ ∧ M.length = n' + 1 ∧ cap2 = cap' := by simpa using hv
      have hk2w : w.heap.size ≤ k2 := by
        rcases Hq2.out with h | h
        · exact absurd h (RBlk.apart HP2.out HS2.out (by simp))
        · exact h
      have hk2l : k2 < wr.heap.size := by
        rcases HS2.out.lt with h | h
        · cases h
        · simpa using h
      clear hv hn'
      have szw : w.heap.size ≤ wr.heap.size := by have := HK3.out.size; simpa using this
      obtain ⟨W, hW⟩ : ∃ x, x = wSum M := ⟨_, rfl⟩
      obtain ⟨Q, hQ⟩ : ∃ x, x = qSum M := ⟨_, rfl⟩
      rw [← hW, ← hQ] at HVm b5 b6 b7
      rw [← hQ] at b1 b2
      rw [← hW] at b3 b4
      have HW := hide hW
      have HQ := hide hQ
      clear hW hQ
      obtain ⟨tb, htb⟩ : ∃ tb, tb = wr.heap.size := ⟨_, rfl⟩
      have Htb := hide htb
      rw [← htb] at hk2l szw
      clear htb
      go_wp2
      clear c4 f4
      have P5 := HP2.out.alloc (.cells Try.zeroCells28 28)
      have S5 := HS2.out.keep (S := fun _ => False) ((Keeps.refl _ _).alloc (.cells Try.zeroCells28 28)) (fun h => h)
      have K5 := HK3.out.alloc (.cells Try.zeroCells28 28)
      have R5 : Row (World.alloc (wr.setCell ⟨q, 4, none⟩ (.slice (some ⟨k2, off, none⟩) M.length cap2)) (.cells Try.zeroCells28 28)) wr.heap.size (fun _ => false) := Row.zero' (by simp)
      rw [← Htb.out] at R5 ⊢
      go_loopw [9, 10] (fun b i wr2 => ∃ j2 : Nat, j2 ≤ M.length ∧ i = .int .i64 j2 ∧ b = .int .u64 (qSum (M.take j2)) ∧ Row wr2 tb (bitF (wSum (M.take j2))) ∧ RBlk wr2 q (.int .i64 sp) (.int .i64 g) (.int .i64 r) (.int .i64 tick) (.slice (some ⟨k2, off, none⟩) M.length cap2) ∧ Seg wr2 147 3 (.slice (some ⟨k2, off, none⟩) M.length cap2) k2 M.length (rCells M) ∧ Keeps (fun b => b = q) w wr2) (fun _ i _ => M.length - (intOf i).toNat)
      case atStart => exact ⟨0, Nat.zero_le _, rfl, rfl, R5.congr (fun i _ => (bitF_zero i).symm), P5, S5, K5⟩
      case round =>
        clear P5 S5 K5 R5
        obtain ⟨j2, hj2, rfl, rfl, hR, hP, hS, hK⟩ := hrel
        have HR := hide hR
        have HP := hide hP
        have HS := hide hS
        have HK := hide hK
        clear hR hP hS hK
        obtain ⟨s0', s1', s2', s3'⟩ := take_bds HM.out HMl.out j2
        by_cases hlt : j2 < M.length
        · obtain ⟨t, ht⟩ : ∃ t, M[j2]? = some t := ⟨M[j2], by simp [hlt]⟩
          have hto := HM.out t (List.mem_of_getElem? ht)
          obtain ⟨x0, x1, x2, x3⟩ := pq_bd hto
          obtain ⟨-, ⟨y0, y1⟩, ⟨z0, z1⟩⟩ := hto
          obtain ⟨r0, r1, r2⟩ := rCells_get M j2 t ht
          have HT := hide (wSum_take M j2 t ht)
          obtain ⟨pr, hpr⟩ : ∃ a, a = t.2.1 := ⟨_, rfl⟩
          obtain ⟨qt, hqt⟩ : ∃ a, a = t.2.2 := ⟨_, rfl⟩
          rw [← hpr, ← hqt] at HT x0 x1 x2 x3
          rw [← hpr] at y0 y1 r1
          rw [← hqt] at z0 z1 r2
          obtain ⟨S, hS⟩ : ∃ x, x = wSum (M.take j2) := ⟨_, rfl⟩
          obtain ⟨T, hT⟩ : ∃ x, x = qSum (M.take j2) := ⟨_, rfl⟩
          rw [← hS, ← hT] at HT
          rw [← hS] at HR s0' s1'
          rw [← hT] at s2' s3' ⊢
          have R1 := hide r1
          have R2 := hide r2
          have HX := hide (And.intro x0 (And.intro x1 x3))
          clear r0 r1 r2 ht hpr hqt hS hT x0 x1 x2 x3
          have HS3 : Hid (0 ≤ S ∧ S < M128 ∧ 0 ≤ pr * qt ∧ pr * qt < M128 ∧ S + pr * qt < M128) := hide (by
            obtain ⟨x0, x1, x3⟩ := HX.out
            rw [M128_eq]
            omega)
          go_wp2
          have hC : SumW w q k2 tb (.int .i64 sp) (.int .i64 g) (.int .i64 r) (.int .i64 tick) (.slice (some ⟨k2, off, none⟩) M.length cap2) M.length (rCells M) S (S + pr * qt) (fun _ => false) wr :=
            ⟨⟨_, HR.out, fun _ => rfl, fun h => by cases h⟩, HP.out, HS.out, HK.out⟩
          refine wp_region_drawn3 (fun g' w' => SumW w q k2 tb (.int .i64 sp) (.int .i64 g) (.int .i64 r) (.int .i64 tick) (.slice (some ⟨k2, off, none⟩) M.length cap2) M.length (rCells M) S (S + pr * qt) g' w') mixed (by kernel_rfl) hC.drew ?_
          clear hC HR HP HS HK
          refine lex3_val (v := .agg (bf (bitF S))) rfl (fun g' w' hc => hc.mark (by decide)) (fun g' w' hg hc => by obtain ⟨f, hf, h1, -⟩ := hc.R; obtain rfl := h1 (hg.1 18 (by kernel_rfl)); exact exec_load_row _ rfl rfl hf) ?_
          refine lex3_val (v := .slice (some ⟨k2, off, none⟩) M.length cap2) rfl (fun g' w' hc => hc.mark (by decide)) (fun g' w' hg hc => exec_move _ rfl rfl) ?_
          simp only [Act.put, List.setIfInBounds_toArray, List.set_cons_zero, List.set_cons_succ]
          refine lex3_val (v := .int .i64 (j2 : Int)) rfl (fun g' w' hc => hc.mark (by decide)) (fun g' w' hg hc => exec_move _ rfl rfl) ?_
          refine lex3_val (v := .pointer (some ⟨k2, off + j2 * 3, none⟩)) rfl (fun g' w' hc => hc.mark (by decide)) (fun g' w' hg hc => by clear hc hg; go_simp) ?_
          simp only [Act.put, List.setIfInBounds_toArray, List.set_cons_zero, List.set_cons_succ]
          refine lex3_val (v := .pointer (some ⟨k2, off + j2 * 3 + 1, none⟩)) rfl (fun g' w' hc => hc.mark (by decide)) (fun g' w' hg hc => by clear hc hg; go_simp) ?_
          refine lex3_val (v := .int .i64 pr) rfl (fun g' w' hc => hc.mark (by decide)) (fun g' w' hg hc => by have d := hc.S.at (j2 * 3) 1 R1.out; clear hc hg; go_simp) ?_
          simp only [Act.put, List.setIfInBounds_toArray, List.set_cons_zero, List.set_cons_succ]
          refine lex3_val (v := .int .u64 pr) rfl (fun g' w' hc => hc.mark (by decide)) (fun g' w' hg hc => by clear hc hg; go_simp; rw [IntKind.wrap_u64]; omega) ?_
          refine lex3_val (v := .slice (some ⟨k2, off, none⟩) M.length cap2) rfl (fun g' w' hc => hc.mark (by decide)) (fun g' w' hg hc => exec_move _ rfl rfl) ?_
          simp only [Act.put, List.setIfInBounds_toArray, List.set_cons_zero, List.set_cons_succ]
          refine lex3_val (v := .int .i64 (j2 : Int)) rfl (fun g' w' hc => hc.mark (by decide)) (fun g' w' hg hc => exec_move _ rfl rfl) ?_
          refine lex3_val (v := .pointer (some ⟨k2, off + j2 * 3, none⟩)) rfl (fun g' w' hc => hc.mark (by decide)) (fun g' w' hg hc => by clear hc hg; go_simp) ?_
          simp only [Act.put, List.setIfInBounds_toArray, List.set_cons_zero, List.set_cons_succ]
          refine lex3_val (v := .pointer (some ⟨k2, off + j2 * 3 + 2, none⟩)) rfl (fun g' w' hc => hc.mark (by decide)) (fun g' w' hg hc => by clear hc hg; go_simp) ?_
          refine lex3_val (v := .int .i64 qt) rfl (fun g' w' hc => hc.mark (by decide)) (fun g' w' hg hc => by have d := hc.S.at (j2 * 3) 2 R2.out; clear hc hg; go_simp) ?_
          simp only [Act.put, List.setIfInBounds_toArray, List.set_cons_zero, List.set_cons_succ]
          refine lex3_val (v := .int .u64 qt) rfl (fun g' w' hc => hc.mark (by decide)) (fun g' w' hg hc => by clear hc hg; go_simp; rw [IntKind.wrap_u64]; omega) ?_
          refine lex3_call (f := 25) (args := #[.int .u64 pr, .int .u64 qt]) (v := .agg (bf (bitF (pr * qt)))) rfl (fun w' => exec_call (by kernel_rfl) rfl rfl) (fun _ w' hg' hc => ?_) ?_
          · refine (refmul_any pr qt w' (by omega) (by omega) (by rw [M64_eq]; omega) (by rw [M64_eq]; omega)).mono ?_
            rintro e w'' ⟨rfl, hb⟩
            exact ⟨rfl, (hc.below hb).mark (by decide)⟩
          simp only [Act.put, List.setIfInBounds_toArray, List.set_cons_zero, List.set_cons_succ]
          refine lex3_call (f := 58) (args := #[.agg (bf (bitF S)), .agg (bf (bitF (pr * qt)))]) (v := .tuple #[.agg (bf (bitF (S + pr * qt))), .bool true]) rfl (fun w' => exec_call (by kernel_rfl) rfl rfl) (fun _ w' hg' hc => ?_) ?_
          · refine (add_any S (pr * qt) w' HS3.out.1 HS3.out.2.1 HS3.out.2.2.1 HS3.out.2.2.2.1).mono ?_
            rintro e w'' ⟨rfl, hb⟩
            exact ⟨by rw [Int.emod_eq_of_lt (by have := HS3.out.1; have := HS3.out.2.2.1; omega) HS3.out.2.2.2.2, decide_eq_true HS3.out.2.2.2.2], (hc.below hb).mark (by decide)⟩
          simp only [Act.put, List.setIfInBounds_toArray, List.set_cons_zero, List.set_cons_succ]
          refine lex3_val (v := .tuple #[.agg (bf (bitF (S + pr * qt))), .bool true]) rfl (fun g' w' hc => hc.mark (by decide)) (fun g' w' hg hc => exec_move _ rfl rfl) ?_
          refine lex3_val (v := .agg (bf (bitF (S + pr * qt)))) rfl (fun g' w' hc => hc.mark (by decide)) (fun g' w' hg hc => exec_extract _ _ rfl rfl rfl) ?_
          simp only [Act.put, List.setIfInBounds_toArray, List.set_cons_zero, List.set_cons_succ]
          refine lex3_val (v := .bool true) rfl (fun g' w' hc => hc.mark (by decide)) (fun g' w' hg hc => exec_extract _ _ rfl rfl rfl) ?_
          refine lex3_put rfl (fun g' w' hg hc => ?_) ?_
          · obtain ⟨f, hf, h1, -⟩ := hc.R
            obtain rfl := h1 hg.2.2
            have hx : Keeps (fun b => b = tb) w' (w'.setRow tb (bf (bitF (S + pr * qt)))) := (Keeps.refl _ _).setRow _ _ (.inl rfl)
            refine ⟨_, exec_store_row _ _ rfl rfl rfl hf, ⟨_, hf.setRow, (fun h => by simp [mark] at h), fun _ => rfl⟩, hc.P.keep hx (by show ¬ q = tb; omega), hc.S.keep hx (by show ¬ k2 = tb; omega), hc.K.setRow _ _ (.inr szw)⟩
          simp only [Act.put]
          refine lex3_nil ?_
          intro w3 hC
          obtain ⟨f, hf, -, h2⟩ := hC.R
          obtain rfl := h2 rfl
          have d2 := hC.S.at (j2 * 3) 2 R2.out
          have HR3 := hide hf
          have HC3 := hide hC
          have hml := HMl.out
          clear h2 hC hf
          go_wp2
          go_roundw
          case rel =>
            refine ⟨j2 + 1, by omega, by go_num, by rw [HT.out.2], by rw [HT.out.1]; exact HR3.out, HC3.out.P, HC3.out.S, HC3.out.K⟩
          case measure => simp [intOf] <;> omega
        · obtain rfl : j2 = M.length := by omega
          clear s0' s1' s2' s3'
          rw [List.take_length] at HR ⊢
          rw [← HW.out] at HR
          rw [← HQ.out]
          have rA := HR.out
          have K6 := hide (And.intro HP.out (And.intro HS.out HK.out))
          clear HR HP HS HK hlt hj2
          obtain ⟨V, hV⟩ : ∃ x, x = W / Q := ⟨_, rfl⟩
          rw [← hV] at HVm b5 b6 b7
          have HB : Hid (W / Q / M64 = 0 ∧ W / Q % M64 = V ∧ 0 ≤ W / Q ∧ W / Q < M128 ∧ 0 ≤ W % Q) := hide (by
            rw [← hV]
            have := Int.emod_nonneg W (show Q ≠ 0 by omega)
            rw [M64_eq, M128_eq]
            omega)
          clear hV
          go_wp2_with (first | ((with_reducible apply load_row); exact rfl; exact rfl; exact rfl; focus ((repeat' (first | (with_reducible assumption) | ((with_reducible apply Row.zero'); simp; done) | ((with_reducible apply Row.new'); simp; done) | (with_reducible apply Row.setRow) | (with_reducible apply Row.setRow_other) | (with_reducible apply Row.alloc) | (with_reducible apply Row.drew) | (simp; done) | omega | (simp; omega))); done)) | ((with_reducible apply store_row); exact rfl; exact rfl; exact rfl; exact rfl; focus ((repeat' (first | (with_reducible assumption) | ((with_reducible apply Row.zero'); simp; done) | ((with_reducible apply Row.new'); simp; done) | (with_reducible apply Row.setRow) | (with_reducible apply Row.setRow_other) | (with_reducible apply Row.alloc) | (with_reducible apply Row.drew) | (simp; done) | omega | (simp; omega))); done)))
          (with_reducible refine (refdiv_any W Q _ b3 b4 b1 (by rw [M64_eq]; omega)).mono ?_)
          rintro e w3 ⟨rfl, hb⟩
          have K7 : Hid (RBlk w3 q (.int .i64 sp) (.int .i64 g) (.int .i64 r) (.int .i64 tick) (.slice (some ⟨k2, off, none⟩) M.length cap2) ∧ Seg w3 147 3 (.slice (some ⟨k2, off, none⟩) M.length cap2) k2 M.length (rCells M) ∧ Keeps (fun b => b = q) w w3) := hide ⟨K6.out.1.below hb K6.out.1.lt, K6.out.2.1.keep (Keeps.of_below (S := fun _ => False) hb) (fun h => h), K6.out.2.2.trans (Keeps.of_below hb)⟩
          clear hb rA
          dsimp only
          go_wp2_with (first | ((with_reducible apply load_row); exact rfl; exact rfl; exact rfl; focus ((repeat' (first | (with_reducible assumption) | ((with_reducible apply Row.zero'); simp; done) | ((with_reducible apply Row.new'); simp; done) | (with_reducible apply Row.setRow) | (with_reducible apply Row.setRow_other) | (with_reducible apply Row.alloc) | (with_reducible apply Row.drew) | (simp; done) | omega | (simp; omega))); done)) | ((with_reducible apply store_row); exact rfl; exact rfl; exact rfl; exact rfl; focus ((repeat' (first | (with_reducible assumption) | ((with_reducible apply Row.zero'); simp; done) | ((with_reducible apply Row.new'); simp; done) | (with_reducible apply Row.setRow) | (with_reducible apply Row.setRow_other) | (with_reducible apply Row.alloc) | (with_reducible apply Row.drew) | (simp; done) | omega | (simp; omega))); done)))
          (with_reducible refine (halves_any (W / Q) _ HB.out.2.2.1 HB.out.2.2.2.1).mono ?_)
          rintro e w4 ⟨rfl, hb⟩
          have s4 := K7.out.2.2.size
          have K8 : RBlk w4 q (.int .i64 sp) (.int .i64 g) (.int .i64 r) (.int .i64 tick) (.slice (some ⟨k2, off, none⟩) M.length cap2) ∧ Seg w4 147 3 (.slice (some ⟨k2, off, none⟩) M.length cap2) k2 M.length (rCells M) ∧ Keeps (fun b => b = q) w w4 := by
            have hx : Keeps (fun b => b = w3.heap.size ∨ b = w3.heap.size + 1) w3 _ := ((((Keeps.refl (fun b => b = w3.heap.size ∨ b = w3.heap.size + 1) w3).alloc (.cells Try.zeroCells28 28)).alloc (.cells Try.zeroCells28 28)).setRow w3.heap.size (bf (bitF (W / Q))) (.inl (.inl rfl))).setRow (w3.heap.size + 1) (bf (bitF (W % Q))) (.inl (.inr rfl))
            have hy := hx.trans (Keeps.of_below hb)
            have h1 := K7.out.1.lt
            have h2 : k2 < w3.heap.size := by
              rcases K7.out.2.1.lt with h | h
              · cases h
              · exact h
            exact ⟨K7.out.1.keep hy (by omega), K7.out.2.1.keep hy (by omega), K7.out.2.2.then hy (fun b hb => .inr (by omega))⟩
          rw [HB.out.1, HB.out.2.1]
          have HK8 := hide K8
          clear hb K8 s4
          dsimp only
          go_wp2
          have hk8 := HK8.out
          refine wp_region_drawn3 (fun _ w' => RBlk w' q (.int .i64 sp) (.int .i64 g) (.int .i64 r) (.int .i64 tick) (.slice (some ⟨k2, off, none⟩) M.length cap2) ∧ Seg w' 147 3 (.slice (some ⟨k2, off, none⟩) M.length cap2) k2 M.length (rCells M) ∧ Keeps (fun b => b = q) w w') mixed (by kernel_rfl) ⟨hk8.1, hk8.2.1, hk8.2.2.drew⟩ ?_
          clear hk8
          refine lex3_val (v := .int .u64 V) rfl (fun g' w' hc => hc) (fun g' w' hg hc => exec_move _ rfl rfl) ?_
          refine lex3_val (v := .int .i64 V) rfl (fun g' w' hc => hc) (fun g' w' hg hc => by clear hc hg; go_simp; rw [wrap_i64_id (by unfold okI; omega)]) ?_
          simp only [Act.put, List.setIfInBounds_toArray, List.set_cons_zero, List.set_cons_succ]
          refine lex3_val (v := .pointer (some ⟨q, 0, none⟩)) rfl (fun g' w' hc => hc) (fun g' w' hg hc => exec_move _ rfl rfl) ?_
          refine lex3_val (v := .pointer (some ⟨q, 0, none⟩)) rfl (fun g' w' hc => hc) (fun g' w' hg hc => by clear hc hg; go_simp) ?_
          simp only [Act.put, List.setIfInBounds_toArray, List.set_cons_zero, List.set_cons_succ]
          refine lex3_val (v := .pointer (some ⟨q, 1, none⟩)) rfl (fun g' w' hc => hc) (fun g' w' hg hc => by clear hc hg; go_simp) ?_
          refine lex3_val (v := .int .i64 g) rfl (fun g' w' hc => hc) (fun g' w' hg hc => by have c1 := hc.1.cell 1 rfl; clear hc hg; go_simp) ?_
          refine lex3_call (f := 53) (args := #[.int .i64 V, .int .i64 g]) (v := .int .i64 (downF V g)) rfl (fun w' => exec_call (by kernel_rfl) rfl rfl) (fun _ w' hg' hc => ?_) ?_
          · refine (refdown_any V g w' (by unfold okI; omega) (by have := HG.out; unfold okI; omega)).mono ?_
            rintro e w'' ⟨rfl, rfl⟩
            exact ⟨rfl, hc⟩
          simp only [Act.put, List.setIfInBounds_toArray, List.set_cons_zero, List.set_cons_succ]
          refine lex3_val (v := .pointer (some ⟨q, 0, none⟩)) rfl (fun g' w' hc => hc) (fun g' w' hg hc => exec_move _ rfl rfl) ?_
          refine lex3_val (v := .pointer (some ⟨q, 0, none⟩)) rfl (fun g' w' hc => hc) (fun g' w' hg hc => by clear hc hg; go_simp) ?_
          simp only [Act.put, List.setIfInBounds_toArray, List.set_cons_zero, List.set_cons_succ]
          refine lex3_val (v := .pointer (some ⟨q, 1, none⟩)) rfl (fun g' w' hc => hc) (fun g' w' hg hc => by clear hc hg; go_simp) ?_
          refine lex3_val (v := .int .i64 g) rfl (fun g' w' hc => hc) (fun g' w' hg hc => by have c1 := hc.1.cell 1 rfl; clear hc hg; go_simp) ?_
          simp only [Act.put, List.setIfInBounds_toArray, List.set_cons_zero, List.set_cons_succ]
          refine lex3_val (v := .int .i64 (max (downF V g) g)) rfl (fun g' w' hc => hc) (fun g' w' hg hc => by clear hc hg; go_simp) ?_
          refine lex3_val (v := .int .i64 (max (downF V g) g)) rfl (fun g' w' hc => hc) (fun g' w' hg hc => exec_assign _ rfl rfl) ?_
          simp only [Act.put, List.setIfInBounds_toArray, List.set_cons_zero, List.set_cons_succ]
          refine lex3_val (v := .bool true) rfl (fun g' w' hc => hc) (fun g' w' hg hc => exec_assign _ rfl rfl) ?_
          simp only [Act.put, List.setIfInBounds_toArray, List.set_cons_zero, List.set_cons_succ]
          refine lex3_nil ?_
          rintro w5 ⟨hP, hSg, hK⟩
          have HR : Hid ((∃ k', (k' = q ∨ w.heap.size ≤ k') ∧ RWin w5 q k' sp g r tick M) ∧ Keeps (fun b => b = q) w w5) := hide ⟨⟨k2, .inr hk2w, _, hP, hSg, fun h => by cases h⟩, hK⟩
          clear hP hSg hK
          go_wp2
          go_ret2
          refine ⟨?_, HR.out⟩
          rw [HVm.out.1, HVm.out.2]
          rfl
/-- The reference's window is this, in w', its trades where they were, nowhere, or in new memory. -/
def RSt (w w' : World) (q k : Nat) (sp g r la : Int) (L : List Trd) : Prop := ∃ k', (k' = k ∨ k' = q ∨ w.heap.size ≤ k') ∧ RWin w' q k' sp g r la L
theorem keep_drop {c : Int} {L : List Trd} (h : L.Pairwise (fun a b => a.1 ≤ b.1)) : keepW c L = dropW c L := by
  induction L with
  | nil => rfl
  | cons t l ih =>
    rw [List.pairwise_cons] at h
    unfold dropW
    by_cases hc : t.1 ≤ c
    · rw [if_pos hc, ← ih h.2]
      unfold keepW
      rw [List.filter_cons_of_neg (by simp; omega)]
    · rw [if_neg hc]
      unfold keepW
      rw [List.filter_eq_self]
      intro x hx
      rcases List.mem_cons.1 hx with rfl | hx
      · simp
        omega
      · have := h.1 x hx
        simp
        omega
set_option maxRecDepth 100000 in
set_option maxHeartbeats 4000000 in
theorem refmean_any (q k : Nat) (sp g r la tick : Int) (L : List Trd) (w : World) (h : RWin w q k sp g r la L) (hL : ∀ t ∈ L, okT t) (hl : L.length ≤ 300) (hs : 1 ≤ sp ∧ sp ≤ 1099511627776) (hg : 1 ≤ g ∧ g ≤ 1099511627776) (ho : L.Pairwise (fun a b => a.1 ≤ b.1)) :
    Calls Try.prog 131 #[.pointer (some ⟨q, 0, none⟩), .int .i64 tick] w fun e w' => e = .returned (.tuple #[.int .i64 (mnV sp g la tick L), .bool (mnB sp la tick L)]) ∧ RSt w w' q k sp g r (mnT la tick) (mnL sp la tick L) ∧ Keeps (fun b => b = q) w w' := by
  cases hc : comesF la tick
  · have e1 : mnV sp g la tick L = 0 := by unfold mnV; rw [hc]; rfl
    have e2 : mnB sp la tick L = false := by unfold mnB; rw [hc]; rfl
    have e3 : mnT la tick = la := by unfold mnT; rw [hc]; rfl
    have e4 : mnL sp la tick L = L := by unfold mnL; rw [hc]; rfl
    rw [e1, e2, e3, e4]
    have HC := hide hc
    have HH := hide h
    obtain ⟨sl, hP, -, -⟩ := h
    have c3 := hP.cell 3 rfl
    clear hP hc hL hl hs hg e1 e2 e3 e4 ho
    go_enter Try.func131, Try.ntmps131
    go_wp2_with (fail)
    (with_reducible refine (ticks_any q la tick _ c3).mono ?_)
    rintro e w ⟨rfl, rfl⟩
    rw [HC.out]
    dsimp only
    go_wp2
    go_ret2
    exact ⟨rfl, ⟨k, .inl rfl, HH.out⟩, Keeps.refl _ _⟩
  · have e1 : mnV sp g la tick L = meanV g (dropW (tick - sp) L) := by unfold mnV; rw [hc]; rfl
    have e2 : mnB sp la tick L = !(dropW (tick - sp) L).isEmpty := by unfold mnB; rw [hc]; rfl
    have e3 : mnT la tick = tick := by unfold mnT; rw [hc]; rfl
    have e4 : mnL sp la tick L = dropW (tick - sp) L := by unfold mnL; rw [hc]; rfl
    rw [e1, e2, e3, e4, ← keep_drop ho]
    refine (refmean_ok q k sp g r la tick L w h hL hl hs hg hc).mono ?_
    rintro e w' ⟨h1, ⟨k', h2, h3⟩, h4⟩
    exact ⟨h1, ⟨k', .inr h2, h3⟩, h4⟩
set_option maxRecDepth 100000 in
set_option maxHeartbeats 4000000 in
theorem refroll_any (q k : Nat) (sp g r la tick bps : Int) (L : List Trd) (w : World) (h : RWin w q k sp g r la L) (hL : ∀ t ∈ L, okT t) (hl : L.length ≤ 300) (hs : 1 ≤ sp ∧ sp ≤ 1099511627776) (hg : 1 ≤ g ∧ g ≤ 1099511627776) (ho : L.Pairwise (fun a b => a.1 ≤ b.1)) :
    Calls Try.prog 132 #[.pointer (some ⟨q, 0, none⟩), .int .i64 tick, .int .i64 bps] w fun e w' => e = .returned (.tuple #[.int .i64 (rlR sp g r la tick bps L), .bool (rlB sp g r la tick bps L)]) ∧ RSt w w' q k sp g (rlR sp g r la tick bps L) (mnT la tick) (mnL sp la tick L) ∧ Keeps (fun b => b = q) w w' := by
  obtain ⟨n, hn⟩ : ∃ n, n = mnV sp g la tick L := ⟨_, rfl⟩
  obtain ⟨B, hB⟩ : ∃ B, B = mnB sp la tick L := ⟨_, rfl⟩
  obtain ⟨c, hc⟩ : ∃ c, c = movedF r n bps := ⟨_, rfl⟩
  have HE : Hid (rlB sp g r la tick bps L = (B && c) ∧ rlR sp g r la tick bps L = (if (B && c) = true then n else r)) := hide (by unfold rlR rlB; rw [← hn, ← hB, ← hc]; exact ⟨rfl, rfl⟩)
  have HM := hide (refmean_any q k sp g r la tick L w h hL hl hs hg ho)
  rw [← hn, ← hB] at HM
  rw [HE.out.1, HE.out.2]
  have HC := hide hc
  clear h hL hl hs hg hn hB hc HE ho
  go_enter Try.func132, Try.ntmps132
  go_wp2_with (fail)
  (with_reducible refine (HM.out).mono ?_)
  rintro e w1 ⟨rfl, ⟨k1, hk1, hW⟩, hK⟩
  have HW := hide hW
  have HK := hide hK
  have Hk1 := hide hk1
  clear hW hK HM hk1
  obtain ⟨sl, hP, hS, hk⟩ := HW.out
  have c2 := hP.cell 2 rfl
  have HP := hide hP
  have HS := hide hS
  have Hk := hide hk
  clear hP hS hk
  dsimp only
  cases B
  · go_wp2
    go_ret2
    exact ⟨rfl, ⟨k1, Hk1.out, HW.out⟩, HK.out⟩
  · go_wp2_with (fail)
    (with_reducible refine (refmoved_any r n bps _).mono ?_)
    rintro e w1 ⟨rfl, rfl⟩
    rw [← HC.out]
    dsimp only
    cases c
    · go_wp2
      go_ret2
      exact ⟨rfl, ⟨k1, Hk1.out, HW.out⟩, HK.out⟩
    · have f2 := HP.out.free 2
      go_wp2
      go_ret2
      exact ⟨rfl, ⟨k1, Hk1.out, sl, HP.out.set2 _, HP.out.segSet HS.out 2 _, Hk.out⟩, HK.out.setCell _ _ (.inl rfl)⟩
end Go.Proofs.Ytadilccdipcmnaa
