/- The law WindowBetween: the walk. -/
import Derived.Test.YtadilccdipcmnaaWinM
namespace Go.Proofs.Ytadilccdipcmnaa
open Go Go.RowKit

/-- The prices that lie in a slice. -/
structure Prices (w : World) (ao : Option Addr) (n b off : Nat) (z : Nat → Int) : Prop where
  A : ao = some ⟨b, off, none⟩
  L : b < w.heap.size
  C : ∀ i, i < n → w.cell? ⟨b, off + i, none⟩ = some (.int .i64 (z i)) ∧ okI (z i)
theorem Prices.carry {B : Nat} {w0 w : World} {ao : Option Addr} {n b off : Nat} {z : Nat → Int} (h : Prices w0 ao n b off z) (hB : B = w0.heap.size) (hb : Below B w0 w) (i : Nat) (hi : i < n) : w.cell? ⟨b, off + i, none⟩ = some (.int .i64 (z i)) := by
  rw [hb.cell (by rw [hB]; exact h.L)]
  exact (h.C i hi).1
theorem okT_mk {a b c : Int} (h1 : 0 ≤ a ∧ a ≤ 1152921504606846976) (h2 : 1 ≤ b ∧ b ≤ 1099511627776) (h3 : 1 ≤ c ∧ c ≤ 4294967296) : okT (a, b, c) := ⟨h1, h2, h3⟩
theorem comes_mk {la tick : Int} (h : la ≤ tick) (h2 : 0 ≤ tick ∧ tick ≤ 1152921504606846976) : comesF la tick = true := decide_eq_true ⟨h, h2⟩
theorem addP_mk {la tick price qty : Int} (h : la ≤ tick) (h2 : 0 ≤ tick ∧ tick ≤ 1152921504606846976) (h3 : 1 ≤ price ∧ price ≤ 1099511627776) (h4 : 1 ≤ qty ∧ qty ≤ 4294967296) : addP la tick price qty := ⟨comes_mk h h2, h3, h4⟩
theorem okLa {tick gap qty : Int} {z : Nat → Int} {j : Nat} (ht : 0 ≤ tick ∧ tick ≤ 1152921504606846976) (hg : 0 ≤ gap ∧ gap ≤ 1152921504606846976) (hq : 1 ≤ qty ∧ qty ≤ 4294967296) (hz : ∀ i, i < j → 1 ≤ z i ∧ z i ≤ 1099511627776) :
    (∀ t ∈ tradesT tick qty z j, okT t) ∧ (∀ t ∈ ([(0, 7, qty), (gap, 9, qty)] : List Trd) ++ tradesT tick qty z j, okT t) := by
  have h1 : ∀ t ∈ tradesT tick qty z j, okT t := by
    intro t h
    obtain ⟨i, hi, rfl⟩ := tradesT_mem h
    exact ⟨ht, hz i hi, hq⟩
  refine ⟨h1, fun t h => ?_⟩
  rcases List.mem_append.1 h with h | h
  · simp at h
    rcases h with rfl | rfl
    · exact okT_mk (by decide) (by decide) hq
    · exact okT_mk hg (by decide) hq
  · exact h1 t h
theorem tradesT_len (tick qty : Int) (z : Nat → Int) (j : Nat) : (tradesT tick qty z j).length = j := by simp [tradesT]
theorem drop_both {tick gap qty sp : Int} {z : Nat → Int} {j : Nat} (ht : tick = gap + sp) (hs : 1 ≤ sp) (hg : 0 ≤ gap) :
    dropW (tick - sp) (tradesT tick qty z j) = tradesT tick qty z j ∧ dropW (tick - sp) (([(0, 7, qty), (gap, 9, qty)] : List Trd) ++ tradesT tick qty z j) = tradesT tick qty z j := by
  have h1 : dropW (tick - sp) (tradesT tick qty z j) = tradesT tick qty z j := dropW_none (by
    intro t h
    obtain ⟨i, hi, rfl⟩ := tradesT_mem h
    show tick - sp < tick
    omega)
  refine ⟨h1, ?_⟩
  show dropW (tick - sp) ((0, 7, qty) :: (gap, 9, qty) :: tradesT tick qty z j) = _
  rw [dropW, if_pos (by show (0 : Int) ≤ tick - sp; omega), dropW, if_pos (by show gap ≤ tick - sp; omega)]
  exact h1
set_option maxRecDepth 100000 in
set_option maxHeartbeats 4000000 in
theorem windowBetween_w (sp g qty gap : Int) (ao : Option Addr) (n cap b off : Nat) (z : Nat → Int) (w0 : World) (hA : 0 < n → Prices w0 ao n b off z) :
    Calls Try.prog 19 #[.int .i64 sp, .int .i64 g, .slice ao n cap, .int .i64 qty, .int .i64 gap] w0 fun e w' => e = .returned (.bool true) ∧ Below w0.heap.size w0 w' := by
  have HA := hide hA
  clear hA
  by_cases c0 : n = 0
  · subst c0
    go_enter Try.func19, Try.ntmps19
    go_wp2_with (fail)
    (with_reducible refine (alive19_any _).mono ?_)
    rintro e w9 ⟨rfl, hb⟩
    have HB := hide hb
    clear hb
    dsimp only
    go_wp2
    go_ret
    exact ⟨rfl, HB.out⟩
  have c0b : ((n : Int) == 0) = false := by simpa using c0
  by_cases c1 : 30 < n
  · skip
    go_enter Try.func19, Try.ntmps19
    go_wp2_with (fail)
    (with_reducible refine (alive19_any _).mono ?_)
    rintro e w9 ⟨rfl, hb⟩
    have HB := hide hb
    clear hb
    dsimp only
    go_wp2
    go_ret
    exact ⟨rfl, HB.out⟩
  by_cases c2 : sp < 1
  · skip
    go_enter Try.func19, Try.ntmps19
    go_wp2_with (fail)
    (with_reducible refine (alive19_any _).mono ?_)
    rintro e w9 ⟨rfl, hb⟩
    have HB := hide hb
    clear hb
    dsimp only
    go_wp2
    go_ret
    exact ⟨rfl, HB.out⟩
  by_cases c3 : 1099511627776 < sp
  · skip
    go_enter Try.func19, Try.ntmps19
    go_wp2_with (fail)
    (with_reducible refine (alive19_any _).mono ?_)
    rintro e w9 ⟨rfl, hb⟩
    have HB := hide hb
    clear hb
    dsimp only
    go_wp2
    go_ret
    exact ⟨rfl, HB.out⟩
  by_cases c4 : g < 1
  · skip
    go_enter Try.func19, Try.ntmps19
    go_wp2_with (fail)
    (with_reducible refine (alive19_any _).mono ?_)
    rintro e w9 ⟨rfl, hb⟩
    have HB := hide hb
    clear hb
    dsimp only
    go_wp2
    go_ret
    exact ⟨rfl, HB.out⟩
  by_cases c5 : 1099511627776 < g
  · skip
    go_enter Try.func19, Try.ntmps19
    go_wp2_with (fail)
    (with_reducible refine (alive19_any _).mono ?_)
    rintro e w9 ⟨rfl, hb⟩
    have HB := hide hb
    clear hb
    dsimp only
    go_wp2
    go_ret
    exact ⟨rfl, HB.out⟩
  by_cases c6 : qty < 1
  · skip
    go_enter Try.func19, Try.ntmps19
    go_wp2_with (fail)
    (with_reducible refine (alive19_any _).mono ?_)
    rintro e w9 ⟨rfl, hb⟩
    have HB := hide hb
    clear hb
    dsimp only
    go_wp2
    go_ret
    exact ⟨rfl, HB.out⟩
  by_cases c7 : 4294967296 < qty
  · skip
    go_enter Try.func19, Try.ntmps19
    go_wp2_with (fail)
    (with_reducible refine (alive19_any _).mono ?_)
    rintro e w9 ⟨rfl, hb⟩
    have HB := hide hb
    clear hb
    dsimp only
    go_wp2
    go_ret
    exact ⟨rfl, HB.out⟩
  by_cases c8 : gap < 0
  · skip
    go_enter Try.func19, Try.ntmps19
    go_wp2_with (fail)
    (with_reducible refine (alive19_any _).mono ?_)
    rintro e w9 ⟨rfl, hb⟩
    have HB := hide hb
    clear hb
    dsimp only
    go_wp2
    go_ret
    exact ⟨rfl, HB.out⟩
  by_cases c9 : 1099511627776 < gap
  · skip
    go_enter Try.func19, Try.ntmps19
    go_wp2_with (fail)
    (with_reducible refine (alive19_any _).mono ?_)
    rintro e w9 ⟨rfl, hb⟩
    have HB := hide hb
    clear hb
    dsimp only
    go_wp2
    go_ret
    exact ⟨rfl, HB.out⟩
  have hA := HA.out (by omega)
  have hAo := hA.A
  subst hAo
  have HA2 := hide hA
  have hs : 1 ≤ sp ∧ sp ≤ 1099511627776 := by omega
  have hg : 1 ≤ g ∧ g ≤ 1099511627776 := by omega
  have HS := hide hs
  have HG := hide hg
  have HN := hide (newP_grid hs hg)
  have HQ := hide (show 1 ≤ qty ∧ qty ≤ 4294967296 by omega)
  have HGP := hide (show 0 ≤ gap ∧ gap ≤ 1152921504606846976 by omega)
  have h0n := hide (show 0 < n by omega)
  have hn30 := hide (show n ≤ 30 by omega)
  obtain ⟨tick, htick⟩ : ∃ tick, tick = gap + sp := ⟨_, rfl⟩
  have HT := hide htick
  have HT2 := hide (show 0 ≤ tick ∧ tick ≤ 1152921504606846976 by omega)
  clear hA hs hg HA htick
  go_enter Try.func19, Try.ntmps19
  go_wp2_with (fail)
  (with_reducible refine (new_any sp g g _ (by unfold okI; omega) (by unfold okI; omega)).mono ?_)
  rintro e w1 ⟨⟨-, rfl, hW⟩ | ⟨h, -⟩, hb⟩
  rotate_left
  · exact absurd HN.out h
  obtain ⟨p, hp⟩ : ∃ p, p = w0.heap.size := ⟨_, rfl⟩
  rw [← hp] at hW ⊢
  have Hp := hide hp
  have HB := hide hb
  have HW := hide hW
  clear hp hb hW
  dsimp only
  go_wp2_with (fail)
  (with_reducible refine (new_any sp g g _ (by unfold okI; omega) (by unfold okI; omega)).mono ?_)
  rintro e w2 ⟨⟨-, rfl, hW2⟩ | ⟨h, -⟩, hb⟩
  rotate_left
  · exact absurd HN.out h
  obtain ⟨p2, hp2⟩ : ∃ p2, p2 = w1.heap.size := ⟨_, rfl⟩
  rw [← hp2] at hW2 ⊢
  have lw := HW.out.lt.1
  have HT0 : Hid (Twin w0.heap.size w0 w2 p p2 sp g 0 0 [] []) := hide ⟨p, p2, HW.out.keep (Keeps.of_below (S := fun _ => False) hb) (fun h => h) (fun h => h), hW2, by omega, by have := Hp.out; have := HB.out.size; omega, HB.out.trans (hb.mono HB.out.size)⟩
  clear hW2 hb hp2 lw
  dsimp only
  go_wp2
  have c : w2.drew.cell? ⟨b, off, none⟩ = some (.int .i64 (z 0)) := HA2.out.carry rfl HT0.out.base 0 h0n.out
  obtain ⟨z0, hz0⟩ : ∃ x, x = z 0 := ⟨_, rfl⟩
  rw [← hz0] at c
  refine wp_region_drawn3 (fun _ w' => w' = w2.drew) mixed (by kernel_rfl) rfl ?_
  refine lex3_val (v := .slice (some ⟨b, off, none⟩) n cap) rfl (fun g' w' hc => hc) (fun g' w' hg hc => exec_move _ rfl rfl) ?_
  refine lex3_val (v := .pointer (some ⟨b, off, none⟩)) rfl (fun g' w' hc => hc) (fun g' w' hg hc => by subst hc; clear hg; go_simp) ?_
  simp only [Act.put, List.setIfInBounds_toArray, List.set_cons_zero, List.set_cons_succ]
  refine lex3_val (v := .int .i64 z0) rfl (fun g' w' hc => hc) (fun g' w' hg hc => by subst hc; clear hg; go_simp) ?_
  refine lex3_val (v := .slice (some ⟨b, off, none⟩) n cap) rfl (fun g' w' hc => hc) (fun g' w' hg hc => exec_move _ rfl rfl) ?_
  refine lex3_val (v := .pointer (some ⟨b, off, none⟩)) rfl (fun g' w' hc => hc) (fun g' w' hg hc => by subst hc; clear hg; go_simp) ?_
  simp only [Act.put, List.setIfInBounds_toArray, List.set_cons_zero, List.set_cons_succ]
  refine lex3_val (v := .int .i64 z0) rfl (fun g' w' hc => hc) (fun g' w' hg hc => by subst hc; clear hg; go_simp) ?_
  simp only [Act.put, List.setIfInBounds_toArray, List.set_cons_zero, List.set_cons_succ]
  refine lex3_val (v := .int .i64 z0) rfl (fun g' w' hc => hc) (fun g' w' hg hc => exec_assign _ rfl rfl) ?_
  refine lex3_val (v := .int .i64 z0) rfl (fun g' w' hc => hc) (fun g' w' hg hc => exec_assign _ rfl rfl) ?_
  simp only [Act.put, List.setIfInBounds_toArray, List.set_cons_zero, List.set_cons_succ]
  refine lex3_nil ?_
  rintro w3 rfl
  have HT1 : Hid (Twin w0.heap.size w0 w2.drew p p2 sp g 0 0 [] []) := hide (by
    obtain ⟨k, k2, h1, h2, h3, h4, h5⟩ := HT0.out
    exact ⟨k, k2, h1, h2, h3, h4, h5.drew⟩)
  clear c hz0
  go_wp2_with (fail)
  (with_reducible refine (twin_add1 (tick := 0) (price := 7) (qty := qty) HT1.out (by simp) (by simp) (addP_mk (by decide) (by decide) (by decide) HQ.out)).mono ?_)
  rintro e w3 ⟨rfl, hT⟩
  have HT3 := hide hT
  clear hT
  dsimp only
  go_wp2_with (fail)
  (with_reducible refine (twin_add1 (tick := gap) (price := 9) (qty := qty) HT3.out (by intro t ht; simp at ht; subst ht; exact okT_mk (by decide) (by decide) HQ.out) (by simp) (addP_mk HGP.out.1 HGP.out (by decide) HQ.out)).mono ?_)
  rintro e w4 ⟨rfl, hT⟩
  have HT4 := hide hT
  clear hT
  dsimp only
  go_wp2
  rw [← HT.out]
  go_loopw [15, 16, 18] (fun lo hi i wr => ∃ j : Nat, j ≤ n ∧ i = .int .i64 j ∧ ∃ l h : Int, lo = .int .i64 l ∧ hi = .int .i64 h ∧ (∀ x, x < j → l ≤ z x ∧ z x ≤ h ∧ 1 ≤ z x ∧ z x ≤ 1099511627776) ∧ ∃ la lb : Int, la ≤ tick ∧ lb ≤ tick ∧ Twin w0.heap.size w0 wr p p2 sp g la lb (([(0, 7, qty), (gap, 9, qty)] : List Trd) ++ tradesT tick qty z j) (tradesT tick qty z j)) (fun _ _ i _ => n - (intOf i).toNat)
  case atStart => exact ⟨0, Nat.zero_le _, rfl, z0, z0, rfl, rfl, (fun x hx => absurd hx (by omega)), gap, 0, by have := HT.out; have := HS.out; omega, HT2.out.1, HT4.out⟩
  case round =>
    obtain ⟨j, hj, rfl, l, h, rfl, rfl, hz, la, lb, hla, hlb, hT⟩ := hrel
    have HZ := hide hz
    have HTw := hide hT
    have Hla := hide hla
    have Hlb := hide hlb
    clear hz hT hla hlb
    by_cases hlt : j < n
    · have c := HA2.out.carry rfl HTw.out.base j hlt
      obtain ⟨y, hy⟩ : ∃ x, x = z j := ⟨_, rfl⟩
      rw [← hy] at c
      have HY := hide hy
      have HYo := hide (HA2.out.C j hlt).2
      clear hy
      have HB9 := hide HTw.out.base
      by_cases y1 : y < 1
      · go_wp2_with (fail)
        (with_reducible refine (alive19_any _).mono ?_)
        rintro e w9 ⟨rfl, hb⟩
        have HB8 := hide (HB9.out.trans (hb.mono HB9.out.size))
        clear hb
        dsimp only
        go_wp2
        go_ret
        exact ⟨rfl, HB8.out⟩
      by_cases y2 : 1099511627776 < y
      · go_wp2_with (fail)
        (with_reducible refine (alive19_any _).mono ?_)
        rintro e w9 ⟨rfl, hb⟩
        have HB8 := hide (HB9.out.trans (hb.mono HB9.out.size))
        clear hb
        dsimp only
        go_wp2
        go_ret
        exact ⟨rfl, HB8.out⟩
      have HYb := hide (show 1 ≤ y ∧ y ≤ 1099511627776 by omega)
      have HO := hide (okLa (j := j) HT2.out HGP.out HQ.out (fun x hx => (HZ.out x hx).2.2))
      have HL := hide (show ((([(0, 7, qty), (gap, 9, qty)] : List Trd) ++ tradesT tick qty z j)).length ≤ 200 by have := hn30.out; simp [tradesT_len]; omega)
      have HL2 := hide (show (tradesT tick qty z j).length ≤ 200 by have := hn30.out; rw [tradesT_len]; omega)
      go_wp2_with (fail)
      (with_reducible refine (twin_add1 (tick := tick) (price := y) (qty := qty) HTw.out HO.out.2 HL.out (addP_mk Hla.out HT2.out HYb.out HQ.out)).mono ?_)
      rintro e w5 ⟨rfl, hT⟩
      have HT5 := hide hT
      have c := HA2.out.carry rfl hT.base j hlt
      rw [← HY.out] at c
      clear hT
      dsimp only
      go_wp2_with (fail)
      (with_reducible refine (twin_add2 (tick := tick) (price := y) (qty := qty) HT5.out HO.out.1 HL2.out (addP_mk Hlb.out HT2.out HYb.out HQ.out)).mono ?_)
      rintro e w6 ⟨rfl, hT⟩
      have HT6 := hide hT
      clear hT c
      have hml := hn30.out
      dsimp only
      go_wp2
      go_roundw
      case rel =>
        refine ⟨j + 1, by omega, by go_num, _, _, rfl, rfl, fun x hx => ?_, tick, tick, Int.le_refl _, Int.le_refl _, ?_⟩
        · by_cases hxj : x = j
          · rw [hxj, ← HY.out]
            omega
          · have := HZ.out x (by omega)
            omega
        · rw [tradesT_succ, ← HY.out, ← List.append_assoc]
          exact HT6.out
      case measure => simp [intOf] <;> omega
    · obtain rfl : j = n := by omega
      have HO := hide (okLa (j := j) HT2.out HGP.out HQ.out (fun x hx => (HZ.out x hx).2.2))
      have HL := hide (show ((([(0, 7, qty), (gap, 9, qty)] : List Trd) ++ tradesT tick qty z j)).length ≤ 300 by have := hn30.out; simp [tradesT_len]; omega)
      have HL2 := hide (show (tradesT tick qty z j).length ≤ 300 by have := hn30.out; rw [tradesT_len]; omega)
      have HD := hide (drop_both (j := j) (qty := qty) (z := z) HT.out HS.out.1 HGP.out.1)
      have hne : tradesT tick qty z j ≠ [] := fun h => by
        have h1 := tradesT_len tick qty z j
        rw [h] at h1
        have := h0n.out
        simp at h1
        omega
      obtain ⟨e1, e2, e3, e4, e5⟩ := between_law (lo := l) (hi := h) HO.out.1 HL2.out hne (by
        intro t ht
        obtain ⟨i, hi, rfl⟩ := tradesT_mem ht
        have := HZ.out i hi
        exact ⟨this.1, this.2.1⟩) HG.out
      have HE : Hid ((tradesT tick qty z j).isEmpty = false) := hide (by
        cases hq : tradesT tick qty z j with
        | nil => exact absurd hq hne
        | cons => rfl)
      obtain ⟨V, hV⟩ : ∃ x, x = meanV g (tradesT tick qty z j) := ⟨_, rfl⟩
      rw [← hV] at e1 e2 e3 e4 e5
      have HV := hide hV
      have ez : (V % g == 0) = true := by simpa using e1
      clear hV hne
      go_wp2_with (fail)
      (with_reducible refine (twin_mean1 (tick := tick) HTw.out HO.out.2 HL.out HS.out HG.out (comes_mk Hla.out HT2.out)).mono ?_)
      rintro e w5 ⟨rfl, hT⟩
      rw [HD.out.2] at hT ⊢
      rw [HE.out, ← HV.out]
      have HT5 := hide hT
      clear hT
      dsimp only
      go_wp2_with (fail)
      (with_reducible refine (twin_mean2 (tick := tick) HT5.out HO.out.1 HL2.out HS.out HG.out (comes_mk Hlb.out HT2.out)).mono ?_)
      rintro e w6 ⟨rfl, hT⟩
      rw [HD.out.1] at hT ⊢
      rw [HE.out, ← HV.out]
      have HB9 := hide hT.base
      clear hT
      dsimp only
      have gne : g ≠ 0 := by omega
      go_wp2_with (fail)
      (with_reducible refine (alive19_any _).mono ?_)
      rintro e w9 ⟨rfl, hb⟩
      have HB8 := hide (HB9.out.trans (hb.mono HB9.out.size))
      clear hb
      dsimp only
      go_wp2
      go_ret
      exact ⟨rfl, HB8.out⟩
end Go.Proofs.Ytadilccdipcmnaa
