/- The law WindowPlays: the walk. -/
import Derived.Test.YtadilccdipcmnaaWinK
namespace Go.Proofs.Ytadilccdipcmnaa
open Go Go.RowKit

theorem Dual.base {B : Nat} {w0 w : World} {p q : Nat} {sp g r1 l1 r2 l2 : Int} {L1 L2 : List Trd} (h : Dual B w0 w p q sp g r1 l1 L1 r2 l2 L2) : Below B w0 w := by
  obtain ⟨_, _, _, _, _, _, _, h⟩ := h
  exact h
/-- The acts that lie in a slice. -/
structure Acts (w : World) (ao : Option Addr) (n b off : Nat) (ka ti pr qt bp : Nat → Int) : Prop where
  A : ao = some ⟨b, off, none⟩
  L : b < w.heap.size
  C : ∀ i, i < n → w.cell? ⟨b, off + i * 5, none⟩ = some (.int .i64 (ka i)) ∧ w.cell? ⟨b, off + i * 5 + 1, none⟩ = some (.int .i64 (ti i)) ∧ w.cell? ⟨b, off + i * 5 + 2, none⟩ = some (.int .i64 (pr i)) ∧ w.cell? ⟨b, off + i * 5 + 3, none⟩ = some (.int .i64 (qt i)) ∧ w.cell? ⟨b, off + i * 5 + 4, none⟩ = some (.int .i64 (bp i))
  O : ∀ i, i < n → okI (pr i)
/-- What a play's region keeps. -/
structure PlayC (B : Nat) (w0 : World) (p q : Nat) (sp g : Int) (n b off : Nat) (ka ti pr qt bp : Nat → Int) (r la r' la' : Int) (L L' : List Trd) (N : Nat) (gg : Nat → Bool) (w : World) : Prop where
  A : ∀ i, i < n → w.cell? ⟨b, off + i * 5, none⟩ = some (.int .i64 (ka i)) ∧ w.cell? ⟨b, off + i * 5 + 1, none⟩ = some (.int .i64 (ti i)) ∧ w.cell? ⟨b, off + i * 5 + 2, none⟩ = some (.int .i64 (pr i)) ∧ w.cell? ⟨b, off + i * 5 + 3, none⟩ = some (.int .i64 (qt i)) ∧ w.cell? ⟨b, off + i * 5 + 4, none⟩ = some (.int .i64 (bp i))
  D : gg 6 = false → Dual B w0 w p q sp g r la L r la L
  E : gg 6 = true → Dual B w0 w p q sp g r' la' L' r' la' L' ∧ OkW N sp g r' la' L'
  G : (gg 8 = true → gg 6 = true) ∧ (gg 10 = true → gg 6 = true) ∧ (gg 17 = true → gg 6 = true)
section
variable {B : Nat} {w0 w w' : World} {p q n b off N : Nat} {sp g r la r' la' : Int} {ka ti pr qt bp : Nat → Int} {L L' : List Trd} {gg : Nat → Bool}
theorem PlayC.drew (h : PlayC B w0 p q sp g n b off ka ti pr qt bp r la r' la' L L' N gg w) : PlayC B w0 p q sp g n b off ka ti pr qt bp r la r' la' L L' N gg w.drew := ⟨h.A, fun e => (h.D e).drew, fun e => ⟨(h.E e).1.drew, (h.E e).2⟩, h.G⟩
theorem PlayC.mark (h : PlayC B w0 p q sp g n b off ka ti pr qt bp r la r' la' L L' N gg w) {j : Nat} (hj : 6 ≠ j) (h8 : 8 ≠ j) (h10 : 10 ≠ j) (h17 : 17 ≠ j) : PlayC B w0 p q sp g n b off ka ti pr qt bp r la r' la' L L' N (mark gg j) w := by
  have e : Ytadilccdipcmnaa.mark gg j 6 = gg 6 := by simp [Ytadilccdipcmnaa.mark, hj]
  have e8 : Ytadilccdipcmnaa.mark gg j 8 = gg 8 := by simp [Ytadilccdipcmnaa.mark, h8]
  have e10 : Ytadilccdipcmnaa.mark gg j 10 = gg 10 := by simp [Ytadilccdipcmnaa.mark, h10]
  have e17 : Ytadilccdipcmnaa.mark gg j 17 = gg 17 := by simp [Ytadilccdipcmnaa.mark, h17]
  exact ⟨h.A, by rw [e]; exact h.D, by rw [e]; exact h.E, by rw [e, e8, e10, e17]; exact h.G⟩
theorem PlayC.past (h : PlayC B w0 p q sp g n b off ka ti pr qt bp r la r' la' L L' N gg w) {j : Nat} (hj : 6 ≠ j) (h6 : gg 6 = true) : PlayC B w0 p q sp g n b off ka ti pr qt bp r la r' la' L L' N (Ytadilccdipcmnaa.mark gg j) w := by
  have e : Ytadilccdipcmnaa.mark gg j 6 = gg 6 := by simp [Ytadilccdipcmnaa.mark, hj]
  exact ⟨h.A, by rw [e]; exact h.D, by rw [e]; exact h.E, by rw [e, h6]; simp⟩
end
theorem Acts.carry {B : Nat} {w0 w : World} {ao : Option Addr} {n b off : Nat} {ka ti pr qt bp : Nat → Int} (h : Acts w0 ao n b off ka ti pr qt bp) (hB : B = w0.heap.size) (hb : Below B w0 w) :
    ∀ i, i < n → w.cell? ⟨b, off + i * 5, none⟩ = some (.int .i64 (ka i)) ∧ w.cell? ⟨b, off + i * 5 + 1, none⟩ = some (.int .i64 (ti i)) ∧ w.cell? ⟨b, off + i * 5 + 2, none⟩ = some (.int .i64 (pr i)) ∧ w.cell? ⟨b, off + i * 5 + 3, none⟩ = some (.int .i64 (qt i)) ∧ w.cell? ⟨b, off + i * 5 + 4, none⟩ = some (.int .i64 (bp i)) := by
  intro i hi
  have hl := h.L
  have hx : ∀ o, w.cell? ⟨b, o, none⟩ = w0.cell? ⟨b, o, none⟩ := fun o => hb.cell (by rw [hB]; exact hl)
  rw [hx, hx, hx, hx, hx]
  exact h.C i hi
set_option maxRecDepth 100000 in
set_option maxHeartbeats 4000000 in
theorem windowPlays_w (sp g r0 : Int) (ao : Option Addr) (n cap b off : Nat) (ka ti pr qt bp : Nat → Int) (w0 : World) (hg : okI g) (hr : okI r0) (hA : 0 < n → Acts w0 ao n b off ka ti pr qt bp) :
    Calls Try.prog 21 #[.int .i64 sp, .int .i64 g, .int .i64 r0, .slice ao n cap] w0 fun e w' => e = .returned (.bool true) ∧ Below w0.heap.size w0 w' := by
  have Hg := hide hg
  have Hr := hide hr
  have HA := hide hA
  clear hg hr hA
  by_cases hn : 100 < n
  · go_enter Try.func21, Try.ntmps21
    go_wp2_with (fail)
    (with_reducible refine (alive19_any _).mono ?_)
    rintro e w9 ⟨rfl, hb⟩
    have HB := hide hb
    clear hb
    dsimp only
    go_wp2
    go_ret
    exact ⟨rfl, HB.out⟩
  go_enter Try.func21, Try.ntmps21
  go_wp2_with (fail)
  (with_reducible refine (new_any sp g r0 _ Hg.out Hr.out).mono ?_)
  rintro e w1 ⟨⟨hN, rfl, hW⟩ | ⟨hN, rfl⟩, hb⟩
  rotate_left
  · have HN := hide hN
    have HB := hide hb
    clear hN hb
    dsimp only
    go_wp2_with (fail)
    (with_reducible refine (refnew_any sp g r0 _ Hg.out Hr.out).mono ?_)
    rintro e w2 ⟨⟨h, -⟩ | ⟨-, rfl⟩, hb⟩
    · exact absurd h HN.out
    have HB2 := hide (HB.out.trans (hb.mono HB.out.size))
    clear hb
    dsimp only
    go_wp2_with (fail)
    (with_reducible refine (alive19_any _).mono ?_)
    rintro e w3 ⟨rfl, hb⟩
    have HB3 := hide (HB2.out.trans (hb.mono HB2.out.size))
    clear hb
    dsimp only
    go_wp2
    go_ret
    exact ⟨rfl, HB3.out⟩
  obtain ⟨p, hp⟩ : ∃ p, p = w0.heap.size := ⟨_, rfl⟩
  rw [← hp] at hW ⊢
  have Hp := hide hp
  have HN := hide hN
  have HB := hide hb
  have HW := hide hW
  clear hp hN hb hW
  dsimp only
  go_wp2_with (fail)
  (with_reducible refine (refnew_any sp g r0 _ Hg.out Hr.out).mono ?_)
  rintro e w2 ⟨⟨-, rfl, hW2⟩ | ⟨h, -⟩, hb⟩
  rotate_left
  · exact absurd HN.out h
  obtain ⟨q, hq⟩ : ∃ q, q = w1.heap.size := ⟨_, rfl⟩
  rw [← hq] at hW2 ⊢
  have hD0 : Dual w0.heap.size w0 w2 p q sp g r0 0 [] r0 0 [] := ⟨p, q, HW.out.keep (Keeps.of_below (S := fun _ => False) hb) (fun h => h) (fun h => h), hW2, by have := Hp.out; omega, by have := HB.out.size; omega, by have := Hp.out; omega, HB.out.trans (hb.mono HB.out.size)⟩
  have hO0 : OkW 0 sp g r0 0 [] := by
    have h1 := HN.out
    have h2 := priced_grid h1.2.2
    exact ⟨by simp, by simp, by simp, by simp, h1.1, ⟨h2.1, h1.2.1⟩, ⟨h2.2.1, h2.2.2.1⟩⟩
  have HD0 := hide hD0
  have HO0 := hide hO0
  clear hW2 hb hq hD0 hO0
  dsimp only
  go_wp2
  go_loopw [13] (fun i wr => ∃ j : Nat, j ≤ n ∧ i = .int .i64 j ∧ ∃ r la L, Dual w0.heap.size w0 wr p q sp g r la L r la L ∧ OkW j sp g r la L) (fun i _ => n - (intOf i).toNat)
  case atStart => exact ⟨0, Nat.zero_le _, rfl, _, _, _, HD0.out, HO0.out⟩
  case round =>
    obtain ⟨j, hj, rfl, r, la, L, hD, hO⟩ := hrel
    have HD := hide hD
    have HO := hide hO
    clear hD hO
    by_cases hlt : j < n
    · have hA := HA.out (by omega)
      have hAo := hA.A
      subst hAo
      have HA2 := hide hA
      clear hA
      have HB5 : Below w0.heap.size w0 wr := by
        obtain ⟨_, _, _, _, _, _, _, h⟩ := HD.out
        exact h
      have hC0 : PlayC w0.heap.size w0 p q sp g n b off ka ti pr qt bp r la (stR sp g r la (ka j) (ti j) (pr j) (bp j) L) (stA la (ka j) (ti j) (pr j) (qt j)) L (stL sp g la (ka j) (ti j) (pr j) (qt j) L) (j + 1) (fun _ => false) wr := ⟨HA2.out.carry rfl HB5, fun _ => HD.out, (fun h => by cases h), by simp⟩
      clear HB5
      have HC0 := hide hC0
      clear hC0
      go_wp2
      obtain ⟨r', hr'⟩ : ∃ x, x = stR sp g r la (ka j) (ti j) (pr j) (bp j) L := ⟨_, rfl⟩
      obtain ⟨N', hN'⟩ : ∃ x, x = (stL sp g la (ka j) (ti j) (pr j) (qt j) L).length := ⟨_, rfl⟩
      have HR' := hide hr'
      have HN' := hide hN'
      clear hr' hN'
      refine wp_region_loose4 (fun gg _ w' => PlayC w0.heap.size w0 p q sp g n b off ka ti pr qt bp r la (stR sp g r la (ka j) (ti j) (pr j) (bp j) L) (stA la (ka j) (ti j) (pr j) (qt j)) L (stL sp g la (ka j) (ti j) (pr j) (qt j) L) (j + 1) gg w') (fun v => ∃ ad c, v = .slice ad N' c) 23 (fun i => ([.pointer (some ⟨p, 0, none⟩), .pointer (some ⟨q, 0, none⟩), .slice (some ⟨b, off, none⟩) n cap, .int .i64 (j : Int), .pointer (some ⟨b, off + j * 5, none⟩), .agg #[.int .i64 (ka j), .int .i64 (ti j), .int .i64 (pr j), .int .i64 (qt j), .int .i64 (bp j)], .bool true, .bool false, .bool false, .pointer (some ⟨p, 0, none⟩), .int .i64 r', .pointer (some ⟨q, 0, none⟩), .pointer (some ⟨q, 0, none⟩), .pointer (some ⟨q, 2, none⟩), .int .i64 r', .bool false, .bool false, .bool false, .pointer (some ⟨p, 0, none⟩), .int .i64 (N' : Int), .pointer (some ⟨q, 0, none⟩), .pointer (some ⟨q, 0, none⟩), .pointer (some ⟨q, 4, none⟩), undef, .int .i64 (N' : Int), .bool false, .bool false] : List Value).getD i undef) (.slice none N' 0) ⟨_, _, rfl⟩ mixed (by kernel_rfl) HC0.out.drew ?_
      clear HC0
      refine lex4_val (v := .pointer (some ⟨p, 0, none⟩)) (by decide) rfl rfl (fun gg m w' hc => hc.mark (by decide) (by decide) (by decide) (by decide)) (fun gg m w' hn hm hc => exec_move _ rfl rfl) ?_
      refine lex4_val (v := .pointer (some ⟨q, 0, none⟩)) (by decide) rfl rfl (fun gg m w' hc => hc.mark (by decide) (by decide) (by decide) (by decide)) (fun gg m w' hn hm hc => exec_move _ rfl rfl) ?_
      simp only [Act.put, List.setIfInBounds_toArray, List.set_cons_zero, List.set_cons_succ]
      refine lex4_val (v := .slice (some ⟨b, off, none⟩) n cap) (by decide) rfl rfl (fun gg m w' hc => hc.mark (by decide) (by decide) (by decide) (by decide)) (fun gg m w' hn hm hc => exec_move _ rfl rfl) ?_
      refine lex4_val (v := .int .i64 (j : Int)) (by decide) rfl rfl (fun gg m w' hc => hc.mark (by decide) (by decide) (by decide) (by decide)) (fun gg m w' hn hm hc => exec_move _ rfl rfl) ?_
      simp only [Act.put, List.setIfInBounds_toArray, List.set_cons_zero, List.set_cons_succ]
      refine lex4_val (v := .pointer (some ⟨b, off + j * 5, none⟩)) (by decide) rfl rfl (fun gg m w' hc => hc.mark (by decide) (by decide) (by decide) (by decide)) (fun gg m w' hn hm hc => by clear hc hm hn; go_simp) ?_
      refine lex4_val (v := .agg #[.int .i64 (ka j), .int .i64 (ti j), .int .i64 (pr j), .int .i64 (qt j), .int .i64 (bp j)]) (by decide) rfl rfl (fun gg m w' hc => hc.mark (by decide) (by decide) (by decide) (by decide)) (fun gg m w' hn hm hc => by obtain ⟨d0, d1, d2, d3, d4⟩ := hc.A j hlt; clear hc hm hn; go_simp) ?_
      simp only [Act.put, List.setIfInBounds_toArray, List.set_cons_zero, List.set_cons_succ]
      refine lex4_call (f := 94) (args := #[.pointer (some ⟨p, 0, none⟩), .pointer (some ⟨q, 0, none⟩), .agg #[.int .i64 (ka j), .int .i64 (ti j), .int .i64 (pr j), .int .i64 (qt j), .int .i64 (bp j)]]) (v := .bool true) (by decide) rfl rfl (fun w' => exec_call (by kernel_rfl) rfl rfl) (fun gg m w' hn hm hc => ?_) ?_
      · refine (act_any w0.heap.size p q j sp g r la (ka j) (ti j) (pr j) (qt j) (bp j) L w0 w' (hc.D hn.2.2) HO.out (by omega) (HA2.out.O j hlt)).mono ?_
        rintro e w'' ⟨rfl, hd, ho⟩
        exact ⟨rfl, HA2.out.carry rfl hd.base, (fun h => by simp [mark] at h), (fun _ => ⟨hd, ho⟩), by simp [mark]⟩
      simp only [Act.put, List.setIfInBounds_toArray, List.set_cons_zero, List.set_cons_succ]
      refine lex4_val (v := .bool false) (by decide) rfl rfl (fun gg m w' hc => hc.mark (by decide) (by decide) (by decide) (by decide)) (fun gg m w' hn hm hc => by clear hc hm hn; go_simp) ?_
      refine lex4_mk (v := .bool false) (by decide) rfl rfl (fun gg m w' hn hm hc => ⟨w', exec_move _ rfl rfl, hc.past (by decide) (hn.2.1 6 (by kernel_rfl))⟩) ?_
      simp only [Act.put, List.setIfInBounds_toArray, List.set_cons_zero, List.set_cons_succ]
      refine lex4_val (v := .pointer (some ⟨p, 0, none⟩)) (by decide) rfl rfl (fun gg m w' hc => hc.mark (by decide) (by decide) (by decide) (by decide)) (fun gg m w' hn hm hc => exec_move _ rfl rfl) ?_
      refine lex4_call (f := 95) (args := #[.pointer (some ⟨p, 0, none⟩)]) (v := .int .i64 r') (by decide) rfl rfl (fun w' => exec_call (by kernel_rfl) rfl rfl) (fun gg m w' hn hm hc => ?_) ?_
      · obtain ⟨k, k2, hP, hR, -⟩ := (hc.E (hc.G.1 (hn.2.1 8 (by kernel_rfl)))).1
        refine (ref_any p k sp g _ _ _ w' hP).mono ?_
        rintro e w'' ⟨rfl, rfl⟩
        exact ⟨by rw [HR'.out], hc.past (by decide) (hc.G.1 (hn.2.1 8 (by kernel_rfl)))⟩
      simp only [Act.put, List.setIfInBounds_toArray, List.set_cons_zero, List.set_cons_succ]
      refine lex4_val (v := .pointer (some ⟨q, 0, none⟩)) (by decide) rfl rfl (fun gg m w' hc => hc.mark (by decide) (by decide) (by decide) (by decide)) (fun gg m w' hn hm hc => exec_move _ rfl rfl) ?_
      refine lex4_val (v := .pointer (some ⟨q, 0, none⟩)) (by decide) rfl rfl (fun gg m w' hc => hc.mark (by decide) (by decide) (by decide) (by decide)) (fun gg m w' hn hm hc => by clear hc hm hn; go_simp) ?_
      simp only [Act.put, List.setIfInBounds_toArray, List.set_cons_zero, List.set_cons_succ]
      refine lex4_val (v := .pointer (some ⟨q, 2, none⟩)) (by decide) rfl rfl (fun gg m w' hc => hc.mark (by decide) (by decide) (by decide) (by decide)) (fun gg m w' hn hm hc => by clear hc hm hn; go_simp) ?_
      refine lex4_val (v := .int .i64 r') (by decide) rfl rfl (fun gg m w' hc => hc.mark (by decide) (by decide) (by decide) (by decide)) (fun gg m w' hn hm hc => by obtain ⟨k, k2, hP, hR, -⟩ := (hc.E (hc.G.1 (hn.2.1 8 (by kernel_rfl)))).1; obtain ⟨sl, hT, -⟩ := hR; have c2 := hT.cell 2 rfl; rw [← HR'.out] at c2; clear hT hP hc hm hn; go_simp) ?_
      simp only [Act.put, List.setIfInBounds_toArray, List.set_cons_zero, List.set_cons_succ]
      refine lex4_val (v := .bool false) (by decide) rfl rfl (fun gg m w' hc => hc.mark (by decide) (by decide) (by decide) (by decide)) (fun gg m w' hn hm hc => by clear hc hm hn; go_simp) ?_
      refine lex4_val (v := .bool false) (by decide) rfl rfl (fun gg m w' hc => hc.mark (by decide) (by decide) (by decide) (by decide)) (fun gg m w' hn hm hc => exec_pick (b := false) _ _ _ rfl rfl rfl) ?_
      simp only [Act.put, List.setIfInBounds_toArray, List.set_cons_zero, List.set_cons_succ]
      refine lex4_mk (v := .bool false) (by decide) rfl rfl (fun gg m w' hn hm hc => ⟨w', exec_move _ rfl rfl, hc.past (by decide) (hc.G.2.1 (hn.2.1 10 (by kernel_rfl)))⟩) ?_
      refine lex4_val (v := .pointer (some ⟨p, 0, none⟩)) (by decide) rfl rfl (fun gg m w' hc => hc.mark (by decide) (by decide) (by decide) (by decide)) (fun gg m w' hn hm hc => exec_move _ rfl rfl) ?_
      simp only [Act.put, List.setIfInBounds_toArray, List.set_cons_zero, List.set_cons_succ]
      refine lex4_call (f := 96) (args := #[.pointer (some ⟨p, 0, none⟩)]) (v := .int .i64 (N' : Int)) (by decide) rfl rfl (fun w' => exec_call (by kernel_rfl) rfl rfl) (fun gg m w' hn hm hc => ?_) ?_
      · obtain ⟨k, k2, hP, hR, -⟩ := (hc.E (hc.G.2.2 (hn.2.1 17 (by kernel_rfl)))).1
        refine (len_win p k sp g _ _ _ w' hP).mono ?_
        rintro e w'' ⟨rfl, rfl⟩
        exact ⟨by rw [HN'.out], hc.mark (by decide) (by decide) (by decide) (by decide)⟩
      simp only [Act.put, List.setIfInBounds_toArray, List.set_cons_zero, List.set_cons_succ]
      refine lex4_val (v := .pointer (some ⟨q, 0, none⟩)) (by decide) rfl rfl (fun gg m w' hc => hc.mark (by decide) (by decide) (by decide) (by decide)) (fun gg m w' hn hm hc => exec_move _ rfl rfl) ?_
      refine lex4_val (v := .pointer (some ⟨q, 0, none⟩)) (by decide) rfl rfl (fun gg m w' hc => hc.mark (by decide) (by decide) (by decide) (by decide)) (fun gg m w' hn hm hc => by clear hc hm hn; go_simp) ?_
      simp only [Act.put, List.setIfInBounds_toArray, List.set_cons_zero, List.set_cons_succ]
      refine lex4_val (v := .pointer (some ⟨q, 4, none⟩)) (by decide) rfl rfl (fun gg m w' hc => hc.mark (by decide) (by decide) (by decide) (by decide)) (fun gg m w' hn hm hc => by clear hc hm hn; go_simp) ?_
      refine lex4_new rfl rfl (fun gg m w' hn hc => ?_) ?_
      · obtain ⟨k, k2, hP, hR, -⟩ := (hc.E (hc.G.2.2 (hn.2.1 17 (by kernel_rfl)))).1
        obtain ⟨sl, hT, hS, -⟩ := hR
        obtain ⟨ad, c, rfl⟩ := hS.len
        have c4 := hT.cell 4 rfl
        rw [← HN'.out] at c4
        refine ⟨.slice ad N' c, w', by clear hS hT hP hc hn; go_simp, ⟨_, _, rfl⟩, hc.mark (by decide) (by decide) (by decide) (by decide)⟩
      rintro v ⟨ad, c, rfl⟩
      simp only [Act.put, List.setIfInBounds_toArray, List.set_cons_zero, List.set_cons_succ]
      refine lex4_val (v := .int .i64 (N' : Int)) (by decide) rfl rfl (fun gg m w' hc => hc.mark (by decide) (by decide) (by decide) (by decide)) (fun gg m w' hn hm hc => by clear hc hm hn; go_simp) ?_
      refine lex4_val (v := .bool false) (by decide) rfl rfl (fun gg m w' hc => hc.mark (by decide) (by decide) (by decide) (by decide)) (fun gg m w' hn hm hc => by clear hc hm hn; go_simp) ?_
      simp only [Act.put, List.setIfInBounds_toArray, List.set_cons_zero, List.set_cons_succ]
      refine lex4_val (v := .bool false) (by decide) rfl rfl (fun gg m w' hc => hc.mark (by decide) (by decide) (by decide) (by decide)) (fun gg m w' hn hm hc => exec_pick (b := false) _ _ _ rfl rfl rfl) ?_
      simp only [Act.put, List.setIfInBounds_toArray, List.set_cons_zero, List.set_cons_succ]
      refine lex4_nil ?_
      rintro m w3 hm hc
      obtain ⟨hd, ho⟩ := hc.E rfl
      have HF := hide (And.intro hd ho)
      clear hd ho hc hm
      go_wp2
      go_roundw
      case rel => exact ⟨j + 1, by omega, by go_num, _, _, _, HF.out.1, HF.out.2⟩
      case measure => simp [intOf] <;> omega
    · have HB6 : Hid (Below w0.heap.size w0 wr) := by
        obtain ⟨_, _, _, _, _, _, _, h⟩ := HD.out
        exact hide h
      go_wp2_with (fail)
      (with_reducible refine (alive19_any _).mono ?_)
      rintro e w9 ⟨rfl, hb⟩
      have HB7 := hide (HB6.out.trans (hb.mono HB6.out.size))
      clear hb
      dsimp only
      go_wp2
      go_ret
      exact ⟨rfl, HB7.out⟩
end Go.Proofs.Ytadilccdipcmnaa
