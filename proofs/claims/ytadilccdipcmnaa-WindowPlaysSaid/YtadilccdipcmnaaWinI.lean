/- The reference's window: Add and Reset. Arguments: any window of at most 200 trades. -/
import Derived.Test.YtadilccdipcmnaaWinG
namespace Go.Proofs.Ytadilccdipcmnaa
open Go Go.RowKit

theorem info147 : (Try.prog.info? 147).map (fun i => (i.zero, i.size, i.bytes)) = some (some (.agg #[.int .i64 0, .int .i64 0, .int .i64 0]), 3, 24) := by kernel_rfl
theorem Keeps.then {S T : Nat → Prop} {w w' w'' : World} (h : Keeps S w w') (k : Keeps T w' w'') (hT : ∀ b, T b → S b ∨ w.heap.size ≤ b) : Keeps S w w'' :=
  ⟨k.os.trans h.os, k.tape.trans h.tape, k.output.trans h.output, Nat.le_trans h.size k.size, fun i hi hn => (k.block i (Nat.lt_of_lt_of_le hi h.size) (fun ht => by rcases hT i ht with h' | h'; exact hn h'; omega)).trans (h.block i hi hn)⟩
theorem Seg.empty {w : World} {n : Nat} (h : w.heap.size = n) : Seg (w.alloc (.cells #[] 147)) 147 3 (.slice (some ⟨n, 0, none⟩) 0 0) n 0 [] := by
  subst h
  exact ⟨rfl, .inr ⟨0, 0, #[], rfl, heap_alloc_new w _, Nat.le_refl _, Nat.zero_le _, by simp, fun j u hj => by simp at hj⟩⟩
theorem rCells_len (l : List Trd) : (rCells l).length = l.length * 3 := by
  induction l with
  | nil => rfl
  | cons t l ih => simp only [rCells, List.flatMap_cons, List.length_append, List.length_cons] at *; rw [ih]; simp [rCell]; omega
theorem rCells_one (l : List Trd) : ∀ u ∈ rCells l, u.oneCell' = true := by
  intro u hu
  simp only [rCells, List.mem_flatMap] at hu
  obtain ⟨t, -, ht⟩ := hu
  simp [rCell] at ht
  rcases ht with rfl | rfl | rfl <;> rfl
theorem rCells_append (l : List Trd) (t : Trd) : rCells (l ++ [t]) = rCells l ++ rCell t := by simp [rCells]
theorem RBlk.apart {w : World} {p k n : Nat} {a b c d sl v : Value} {xs : List Value} (h : RBlk w p a b c d sl) (hs : Seg w 147 3 v k n xs) (hv : v ≠ .slice none 0 0) : k ≠ p := by
  rintro rfl
  obtain ⟨_, ⟨h2, _⟩ | ⟨off, cap, cur, _, h4, _⟩⟩ := hs
  · exact hv h2
  · unfold RBlk at h
    rw [h] at h4
    simp at h4
theorem RBlk.segSet {w : World} {p k n : Nat} {a b c d sl sl' : Value} {xs : List Value} (h : RBlk w p a b c d sl') (hs : Seg w 147 3 sl k n xs) (i : Nat) (v : Value) : Seg (w.setCell ⟨p, i, none⟩ v) 147 3 sl k n xs := by
  by_cases hv : sl = .slice none 0 0
  · subst hv
    obtain ⟨h1, h2 | ⟨_, _, _, h3, _⟩⟩ := hs
    · exact ⟨h1, Or.inl h2⟩
    · cases h3
  · exact hs.keep ((Keeps.refl (fun b => b = p) w).setCell ⟨p, i, none⟩ v (.inl rfl)) (RBlk.apart h hs hv)
theorem cell_of_list {w : World} {b e : Nat} {xs : List Value} (h : w.heap[b]? = some (.cells xs.toArray e (0, 0))) : ∀ j u, xs[j]? = some u → w.cell? ((⟨b, 0, none⟩ : Addr).add j) = some u := by
  intro j u hj
  rw [Addr.add_lit, cell_of_row w b (0 + j) _ e (0, 0) h]
  simpa using hj
set_option maxRecDepth 100000 in
set_option maxHeartbeats 4000000 in
theorem refadd_ok (q k : Nat) (sp g r la : Int) (L : List Trd) (tick price qty : Int) (w : World) (h : RWin w q k sp g r la L) (hl : L.length ≤ 200) (hc : comesF la tick = true) (hp : 1 ≤ price ∧ price ≤ 1099511627776) (hq : 1 ≤ qty ∧ qty ≤ 4294967296) :
    Calls Try.prog 130 #[.pointer (some ⟨q, 0, none⟩), .int .i64 tick, .int .i64 price, .int .i64 qty] w fun e w' => e = .returned (.int .i64 0) ∧ ∃ k', w.heap.size ≤ k' ∧ RWin w' q k' sp g r tick (L ++ [(tick, price, qty)]) ∧ Keeps (fun b => b = q) w w' := by
  obtain ⟨sl, hP, hS, hk⟩ := h
  obtain ⟨p1, p2⟩ := hp
  obtain ⟨y1, y2⟩ := hq
  have c3 := hP.cell 3 rfl
  have f3 := hP.free 3
  have P1 := hP.set3 (.int .i64 tick)
  have S1 := hP.segSet hS 3 (.int .i64 tick)
  have c4 := (P1.alloc (.cells #[] 147)).cell 4 rfl
  have lq := hP.lt
  have HC := hide hc
  have HP1 := hide P1
  have HS1 := hide S1
  have Hl := hide hl
  obtain ⟨i0, hi0, hz0, hz1, hz2⟩ := info_parts info147
  have HI := hide (And.intro hi0 (And.intro hz0 (And.intro hz1 hz2)))
  clear hP hS hk hc P1 S1 hl hi0 hz0 hz1 hz2
  have K1 : Hid (Keeps (fun b => b = q) w ((w.setCell ⟨q, 3, none⟩ (.int .i64 tick)).alloc (.cells #[] 147))) := hide (((Keeps.refl (fun b => b = q) w).setCell ⟨q, 3, none⟩ _ (.inl rfl)).alloc _)
  go_enter Try.func130, Try.ntmps130
  go_wp2_with (fail)
  (with_reducible refine (ticks_any q la tick _ c3).mono ?_)
  rintro e w ⟨rfl, rfl⟩
  rw [HC.out]
  dsimp only
  go_wp2_with (at_builtin; refine append_seg (w := (w.setCell ⟨q, 3, none⟩ (.int .i64 tick)).alloc (.cells #[] 147)) rfl (.tmp 34) (.tmp 38) 100 rfl 147 i0 _ 3 24 Try.underlying100 HI.out.1 HI.out.2.1 HI.out.2.2.1 HI.out.2.2.2 rfl (by decide) rfl (Seg.empty (by simp)) rfl (rCells_len L) ((HS1.out.keep (S := fun _ => False) ((Keeps.refl _ _).alloc _) (fun h => h)).srcs) (rCells_one L) (by have := Hl.out; unfold maxLen; omega) (by have := Hl.out; omega) ?_)
  intro v1 w1 k1 hs1 hk1 hd1 hlt1 hne1
  have lw1 := hk1.size
  simp at lw1
  have P2 : RBlk w1 q (.int .i64 sp) (.int .i64 g) (.int .i64 r) (.int .i64 tick) sl := (HP1.out.alloc _).keep hk1 (fun h => by first | (have := h.1; omega) | (have h9 : q = w.heap.size := h; omega))
  have K2 : Hid (Keeps (fun b => b = q) w w1) := hide (K1.out.then hk1 (fun b hb => .inr (by first | (have := hb.1; omega) | (have h9 : b = w.heap.size := hb; omega))))
  have HP2 := hide P2
  have HS1' := hide hs1
  have hk1' : w.heap.size ≤ k1 := by omega
  clear P2 hs1 hk1 c4
  go_wp2_with (at_builtin; refine append_seg (w := w1.alloc (.cells #[.int .i64 tick, .int .i64 price, .int .i64 qty] 147)) rfl (.tmp 39) (.tmp 44) 100 rfl 147 i0 _ 3 24 Try.underlying100 HI.out.1 HI.out.2.1 HI.out.2.2.1 HI.out.2.2.2 rfl (by decide) rfl (HS1'.out.keep (S := fun _ => False) ((Keeps.refl _ _).alloc _) (fun h => h)) rfl (m := 1) (news := [.int .i64 tick, .int .i64 price, .int .i64 qty]) rfl (.inr ⟨_, _, rfl, cell_of_list (heap_alloc_new w1 _)⟩) (by simp [Value.oneCell']) (by have := Hl.out; unfold maxLen; omega) (by have := Hl.out; omega) ?_)
  intro v2 w2 k2 hs2 hk2 hd2 hlt2 hne2
  have lw2 := hk2.size
  simp at lw2
  have P3 : RBlk w2 q (.int .i64 sp) (.int .i64 g) (.int .i64 r) (.int .i64 tick) sl := (HP2.out.alloc _).keep hk2 (fun h => by first | (have := h.1; omega) | (have h9 : q = k1 := h; omega))
  have K3 : Hid (Keeps (fun b => b = q) w w2) := hide ((K2.out.alloc _).then hk2 (fun b hb => .inr (by first | (have := hb.1; omega) | (have h9 : b = k1 := hb; omega))))
  have hk2' : w.heap.size ≤ k2 := by omega
  have HK := hide hk2'
  obtain ⟨off2, cap2, _, rfl, -⟩ := hs2.open
  have c4 := P3.cell 4 rfl
  have f4 := P3.free 4
  have HP3 := hide P3
  have HS2 := hide hs2
  clear P3 hs2 hk2 hd2 hlt2 hne2 lw2 hk2' lw1 hd1 hlt1 hne1 hk1'
  go_wp2
  go_ret
  refine ⟨rfl, k2, HK.out, ⟨_, HP3.out.set4 _, ?_, fun h => by cases h⟩, K3.out.setCell _ _ (.inl rfl)⟩
  rw [rCells_append, List.length_append]
  exact HP3.out.segSet HS2.out 4 _
set_option maxRecDepth 100000 in
set_option maxHeartbeats 4000000 in
theorem refadd_no (q k : Nat) (sp g r la : Int) (L : List Trd) (tick price qty : Int) (w : World) (h : RWin w q k sp g r la L) (hn : ¬ addP la tick price qty) :
    Calls Try.prog 130 #[.pointer (some ⟨q, 0, none⟩), .int .i64 tick, .int .i64 price, .int .i64 qty] w fun e w' => e = .returned (.int .i64 9) ∧ w' = w := by
  obtain ⟨sl, hP, -, -⟩ := h
  have c3 := hP.cell 3 rfl
  clear hP
  cases hc : comesF la tick
  · have HC := hide hc
    clear hc hn
    go_enter Try.func130, Try.ntmps130
    go_wp2_with (fail)
    (with_reducible refine (ticks_any q la tick _ c3).mono ?_)
    rintro e w ⟨rfl, rfl⟩
    rw [HC.out]
    dsimp only
    go_wp2
    go_ret
    exact ⟨rfl, rfl⟩
  have HC := hide hc
  by_cases b1 : price < 1
  · clear hn hc
    go_enter Try.func130, Try.ntmps130
    go_wp2_with (fail)
    (with_reducible refine (ticks_any q la tick _ c3).mono ?_)
    rintro e w ⟨rfl, rfl⟩
    rw [HC.out]
    dsimp only
    go_wp2
    go_ret
    exact ⟨rfl, rfl⟩
  by_cases b2 : 1099511627776 < price
  · clear hn hc
    go_enter Try.func130, Try.ntmps130
    go_wp2_with (fail)
    (with_reducible refine (ticks_any q la tick _ c3).mono ?_)
    rintro e w ⟨rfl, rfl⟩
    rw [HC.out]
    dsimp only
    go_wp2
    go_ret
    exact ⟨rfl, rfl⟩
  by_cases b3 : qty < 1
  · clear hn hc
    go_enter Try.func130, Try.ntmps130
    go_wp2_with (fail)
    (with_reducible refine (ticks_any q la tick _ c3).mono ?_)
    rintro e w ⟨rfl, rfl⟩
    rw [HC.out]
    dsimp only
    go_wp2
    go_ret
    exact ⟨rfl, rfl⟩
  by_cases b4 : 4294967296 < qty
  · clear hn hc
    go_enter Try.func130, Try.ntmps130
    go_wp2_with (fail)
    (with_reducible refine (ticks_any q la tick _ c3).mono ?_)
    rintro e w ⟨rfl, rfl⟩
    rw [HC.out]
    dsimp only
    go_wp2
    go_ret
    exact ⟨rfl, rfl⟩
  exact absurd ⟨hc, by omega, by omega⟩ hn
theorem refwinadd_any (q k : Nat) (sp g r la : Int) (L : List Trd) (tick price qty : Int) (w : World) (h : RWin w q k sp g r la L) (hl : L.length ≤ 200) :
    Calls Try.prog 130 #[.pointer (some ⟨q, 0, none⟩), .int .i64 tick, .int .i64 price, .int .i64 qty] w fun e w' => e = .returned (.int .i64 (if addP la tick price qty then 0 else 9)) ∧
      ∃ k', (k' = k ∨ w.heap.size ≤ k') ∧ RWin w' q k' sp g r (if addP la tick price qty then tick else la) (if addP la tick price qty then L ++ [(tick, price, qty)] else L) ∧ Keeps (fun b => b = q) w w' := by
  by_cases ha : addP la tick price qty
  · rw [if_pos ha, if_pos ha, if_pos ha]
    refine (refadd_ok q k sp g r la L tick price qty w h hl ha.1 ha.2.1 ha.2.2).mono ?_
    rintro e w' ⟨rfl, k', h1, h2, h3⟩
    exact ⟨rfl, k', .inr h1, h2, h3⟩
  · rw [if_neg ha, if_neg ha, if_neg ha]
    refine (refadd_no q k sp g r la L tick price qty w h ha).mono ?_
    rintro e w ⟨rfl, rfl⟩
    exact ⟨rfl, k, .inl rfl, h, Keeps.refl _ _⟩
set_option maxRecDepth 100000 in
set_option maxHeartbeats 4000000 in
theorem refreset_any (q k : Nat) (sp g r la a : Int) (L : List Trd) (w : World) (h : RWin w q k sp g r la L) (hg : okI g) (ha : okI a) :
    Calls Try.prog 133 #[.pointer (some ⟨q, 0, none⟩), .int .i64 a] w fun e w' => e = .returned (.int .i64 (rsF g a)) ∧ (∃ k', (k' = k ∨ k' = q) ∧ RWin w' q k' sp g (rsR g r a) la (rsL g a L)) ∧ Keeps (fun b => b = q) w w' := by
  have HH := hide h
  obtain ⟨sl, hP, hS, hk⟩ := h
  have c1 := hP.cell 1 rfl
  have HG := hide hg
  have HA := hide ha
  have HP := hide hP
  clear hP hS hk hg ha
  cases hc : pricedF a g
  · have e1 : rsR g r a = r := by unfold rsR; rw [hc]; rfl
    have e2 : rsL g a L = L := by unfold rsL; rw [hc]; rfl
    have e3 : rsF g a = 9 := by unfold rsF; rw [hc]; rfl
    rw [e1, e2, e3]
    have HC := hide hc
    clear e1 e2 e3 hc
    go_enter Try.func133, Try.ntmps133
    go_wp2_with (fail)
    (with_reducible refine (refpriced_any a g _ HA.out HG.out).mono ?_)
    rintro e w ⟨rfl, rfl⟩
    rw [HC.out]
    dsimp only
    go_wp2
    go_ret
    exact ⟨rfl, ⟨k, .inl rfl, HH.out⟩, Keeps.refl _ _⟩
  · have e1 : rsR g r a = a := by unfold rsR; rw [hc]; rfl
    have e2 : rsL g a L = [] := by unfold rsL; rw [hc]; rfl
    have e3 : rsF g a = 0 := by unfold rsF; rw [hc]; rfl
    rw [e1, e2, e3]
    have HC := hide hc
    clear e1 e2 e3 hc
    have P2 := HP.out.set2 (.int .i64 a)
    have P4 := hide (P2.set4 (.slice none 0 0))
    have c2 := HP.out.cell 2 rfl
    have f2 := HP.out.free 2
    have c4 := P2.cell 4 rfl
    have f4 := P2.free 4
    clear P2
    go_enter Try.func133, Try.ntmps133
    go_wp2_with (fail)
    (with_reducible refine (refpriced_any a g _ HA.out HG.out).mono ?_)
    rintro e w ⟨rfl, rfl⟩
    rw [HC.out]
    dsimp only
    go_wp2
    go_ret
    exact ⟨rfl, ⟨q, .inr rfl, .slice none 0 0, P4.out, Seg.nil _ _ _ _, fun _ => rfl⟩, ((Keeps.refl (fun b => b = q) w).setCell ⟨q, 2, none⟩ _ (.inl rfl)).setCell ⟨q, 4, none⟩ _ (.inl rfl)⟩
end Go.Proofs.Ytadilccdipcmnaa
