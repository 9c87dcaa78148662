/- The program's window: Roll and Reset, and the chapter's example. -/
import Derived.Test.YtadilccdipcmnaaWinF
namespace Go.Proofs.Ytadilccdipcmnaa
open Go Go.RowKit

theorem meanV_bd {g : Int} {M : List Trd} (hM : ∀ t ∈ M, okT t) (hl : M.length ≤ 300) (hg : 1 ≤ g ∧ g ≤ 1099511627776) : 0 ≤ meanV g M ∧ meanV g M ≤ 1099511627776 := by
  unfold meanV
  by_cases hn : M = []
  · subst hn
    simp
  · have he : M.isEmpty = false := by cases M with | nil => exact absurd rfl hn | cons => rfl
    obtain ⟨b1, b2, b3, b4, b5, b6, b7⟩ := mean_bds hM hl hn
    rw [he, if_neg (by simp), down_in b5 hg.1]
    have h1 := Int.emod_nonneg (wSum M / qSum M) (show g ≠ 0 by omega)
    omega
theorem mnL_ok {sp la tick : Int} {L : List Trd} (hL : ∀ t ∈ L, okT t) : (∀ t ∈ mnL sp la tick L, okT t) ∧ (mnL sp la tick L).length ≤ L.length := by
  unfold mnL
  split
  · exact dropW_ok hL
  · exact ⟨hL, Nat.le_refl _⟩
theorem mnV_bd {sp g la tick : Int} {L : List Trd} (hL : ∀ t ∈ L, okT t) (hl : L.length ≤ 300) (hg : 1 ≤ g ∧ g ≤ 1099511627776) : 0 ≤ mnV sp g la tick L ∧ mnV sp g la tick L ≤ 1099511627776 := by
  unfold mnV
  split
  · exact meanV_bd (dropW_ok hL).1 (Nat.le_trans (dropW_ok hL).2 hl) hg
  · omega
def rlB (sp g r la tick bps : Int) (L : List Trd) : Bool := mnB sp la tick L && movedF r (mnV sp g la tick L) bps
def rlR (sp g r la tick bps : Int) (L : List Trd) : Int := if rlB sp g r la tick bps L then mnV sp g la tick L else r
set_option maxRecDepth 100000 in
set_option maxHeartbeats 4000000 in
theorem roll_any (p k : Nat) (sp g r la tick bps : Int) (L : List Trd) (w : World) (h : PWin w p k sp g r la L) (hL : ∀ t ∈ L, okT t) (hl : L.length ≤ 300) (hs : 1 ≤ sp ∧ sp ≤ 1099511627776) (hg : 1 ≤ g ∧ g ≤ 1099511627776) (hr : 1 ≤ r ∧ r ≤ 1099511627776) :
    Calls Try.prog 97 #[.pointer (some ⟨p, 0, none⟩), .int .i64 tick, .int .i64 bps] w fun e w' => e = .returned (.tuple #[.int .i64 (rlR sp g r la tick bps L), .bool (rlB sp g r la tick bps L)]) ∧ PWin w' p k sp g (rlR sp g r la tick bps L) (mnT la tick) (mnL sp la tick L) ∧ Keeps (fun b => b = p) w w' := by
  have hv := mnV_bd (sp := sp) (g := g) (la := la) (tick := tick) hL hl hg
  obtain ⟨n, hn⟩ : ∃ n, n = mnV sp g la tick L := ⟨_, rfl⟩
  obtain ⟨B, hB⟩ : ∃ B, B = mnB sp la tick L := ⟨_, rfl⟩
  obtain ⟨c, hc⟩ : ∃ c, c = movedF r n bps := ⟨_, rfl⟩
  have HE : Hid (rlB sp g r la tick bps L = (B && c) ∧ rlR sp g r la tick bps L = (if (B && c) = true then n else r)) := hide (by unfold rlR rlB; rw [← hn, ← hB, ← hc]; exact ⟨rfl, rfl⟩)
  have HM := hide (mean_any p k sp g r la tick L w h hL hl hs hg)
  rw [← hn, ← hB] at HM
  rw [← hn] at hv
  rw [HE.out.1, HE.out.2]
  have HV := hide hv
  have HR := hide hr
  have HC := hide hc
  clear h hL hl hs hg hv hr hn hB hc HE
  go_enter Try.func97, Try.ntmps97
  go_wp2_with (fail)
  (with_reducible refine (HM.out).mono ?_)
  rintro e w1 ⟨rfl, hW, hK⟩
  have HW := hide hW
  have HK := hide hK
  clear hW hK HM
  dsimp only
  cases B
  · go_wp2_with (fail)
    (with_reducible refine (ref_any p k sp g r _ _ _ HW.out).mono ?_)
    rintro e w1 ⟨rfl, rfl⟩
    dsimp only
    go_wp2
    go_ret2
    exact ⟨rfl, HW.out, HK.out⟩
  · obtain ⟨sl, hP, hS, hk⟩ := HW.out
    have c2 := hP.cell 2 rfl
    have HP := hide hP
    have HS := hide hS
    have Hk := hide hk
    clear hP hS hk
    go_wp2_with (fail)
    (with_reducible refine (moved_any r n bps _ (by have := HR.out; unfold okI; omega) (by have := HV.out; unfold okI; omega)).mono ?_)
    rintro e w1 ⟨rfl, rfl⟩
    rw [← HC.out]
    dsimp only
    cases c
    · go_wp2_with (fail)
      (with_reducible refine (ref_any p k sp g r _ _ _ HW.out).mono ?_)
      rintro e w1 ⟨rfl, rfl⟩
      dsimp only
      go_wp2
      go_ret2
      exact ⟨rfl, HW.out, HK.out⟩
    · have f2 := HP.out.free 2
      go_wp2
      go_ret2
      exact ⟨rfl, ⟨sl, HP.out.set2 _, HP.out.segSet HS.out 2 _, Hk.out⟩, HK.out.setCell _ _ (.inl rfl)⟩
def rsR (g r a : Int) : Int := if pricedF a g then a else r
def rsL (g a : Int) (L : List Trd) : List Trd := if pricedF a g then [] else L
def rsF (g a : Int) : Int := if pricedF a g then 0 else 9
set_option maxRecDepth 100000 in
set_option maxHeartbeats 4000000 in
theorem reset_any (p k : Nat) (sp g r la a : Int) (L : List Trd) (w : World) (h : PWin w p k sp g r la L) (hg : okI g) (ha : okI a) :
    Calls Try.prog 98 #[.pointer (some ⟨p, 0, none⟩), .int .i64 a] w fun e w' => e = .returned (.int .i64 (rsF g a)) ∧ (∃ k', (k' = k ∨ k' = p) ∧ PWin w' p k' sp g (rsR g r a) la (rsL g a L)) ∧ Keeps (fun b => b = p) w w' := by
  have HH := hide h
  obtain ⟨sl, hP, hS, hk⟩ := h
  have c1 := hP.cell 1 rfl
  have HG := hide hg
  have HA := hide ha
  have HP := hide hP
  clear hP hS hk hg ha
  cases hc : pricedF a g
  · have e1 : rsR g r a = r := by unfold rsR; rw [hc]; rfl
    have e2 : rsL g a L = L := by unfold rsL; rw [hc]; rfl
    have e3 : rsF g a = 9 := by unfold rsF; rw [hc]; rfl
    rw [e1, e2, e3]
    have HC := hide hc
    clear e1 e2 e3 hc
    go_enter Try.func98, Try.ntmps98
    go_wp2_with (fail)
    (with_reducible refine (priced_any a g _ HA.out HG.out).mono ?_)
    rintro e w ⟨rfl, rfl⟩
    rw [HC.out]
    dsimp only
    go_wp2
    go_ret
    exact ⟨rfl, ⟨k, .inl rfl, HH.out⟩, Keeps.refl _ _⟩
  · have e1 : rsR g r a = a := by unfold rsR; rw [hc]; rfl
    have e2 : rsL g a L = [] := by unfold rsL; rw [hc]; rfl
    have e3 : rsF g a = 0 := by unfold rsF; rw [hc]; rfl
    rw [e1, e2, e3]
    have HC := hide hc
    clear e1 e2 e3 hc
    have P2 := HP.out.set2 (.int .i64 a)
    have P4 := P2.set4 (.slice none 0 0)
    have P5 := P4.set5 (.int .u64 0)
    have P6 := P5.set6 (.int .u64 0)
    have P7 := hide (P6.set7 (.int .i64 0))
    have c2 := HP.out.cell 2 rfl
    have f2 := HP.out.free 2
    have c4 := P2.cell 4 rfl
    have f4 := P2.free 4
    have c5 := P4.cell 5 rfl
    have f5 := P4.free 5
    have c6 := P4.cell 6 rfl
    have f6 := P4.free 6
    have d6 := P5.cell 6 rfl
    have g6 := P5.free 6
    have c7 := P6.cell 7 rfl
    have f7 := P6.free 7
    clear P2 P4 P5 P6
    go_enter Try.func98, Try.ntmps98
    go_wp2_with (fail)
    (with_reducible refine (priced_any a g _ HA.out HG.out).mono ?_)
    rintro e w ⟨rfl, rfl⟩
    rw [HC.out]
    dsimp only
    go_wp2
    go_ret
    exact ⟨rfl, ⟨p, .inr rfl, .slice none 0 0, P7.out, Seg.nil _ _ _ _, fun _ => rfl⟩, (((((Keeps.refl (fun b => b = p) w).setCell ⟨p, 2, none⟩ _ (.inl rfl)).setCell ⟨p, 4, none⟩ _ (.inl rfl)).setCell ⟨p, 5, none⟩ _ (.inl rfl)).setCell ⟨p, 6, none⟩ _ (.inl rfl)).setCell ⟨p, 7, none⟩ _ (.inl rfl)⟩
theorem plain_new : newP 5 1 90 := by decide +kernel
theorem plain_win : addP 0 1 100 1 ∧ addP 1 2 104 3 ∧ mnV 5 1 2 3 [(1, 100, 1), (2, 104, 3)] = 103 ∧ mnB 5 2 3 [(1, 100, 1), (2, 104, 3)] = true ∧ mnT 2 3 = 3 ∧ mnL 5 2 3 [(1, 100, 1), (2, 104, 3)] = [(1, 100, 1), (2, 104, 3)] := by decide +kernel
theorem plain_ok : (∀ t ∈ ([(1, 100, 1)] : List Trd), okT t) ∧ (∀ t ∈ ([(1, 100, 1), (2, 104, 3)] : List Trd), okT t) := by
  simp [okT]
set_option maxRecDepth 100000 in
set_option maxHeartbeats 4000000 in
theorem alive19_any (w : World) : Calls Try.prog 87 #[] w fun e w' => e = .returned (.bool true) ∧ Below w.heap.size w w' := by
  obtain ⟨a1, a2, m1, m2, m3, m4⟩ := plain_win
  have HN := hide plain_new
  have H1 := hide a1
  have H2 := hide a2
  have H3 := hide (And.intro m1 (And.intro m2 (And.intro m3 m4)))
  have H4 := hide plain_ok
  clear a1 a2 m1 m2 m3 m4
  obtain ⟨p, hp⟩ : ∃ p, p = w.heap.size := ⟨_, rfl⟩
  have Hp := hide hp
  clear hp
  go_enter Try.func87, Try.ntmps87
  go_wp2_with (fail)
  (with_reducible refine (new_any 5 1 90 _ (by decide) (by decide)).mono ?_)
  rintro e w1 ⟨⟨-, rfl, hW⟩ | ⟨h, -⟩, hb⟩
  rotate_left
  · exact absurd HN.out h
  rw [← Hp.out] at hW hb ⊢
  have HW := hide hW
  have B1 := hide hb
  clear hW hb
  dsimp only
  go_wp2_with (fail)
  (with_reducible refine (winadd_any p p 5 1 90 0 [] 1 100 1 _ HW.out (by simp) (by simp) (by decide)).mono ?_)
  rintro e w2 ⟨rfl, k2, hk2, hW, hK⟩
  rw [if_pos H1.out] at hW ⊢
  rw [if_pos H1.out] at hW
  have K2 : Hid (p ≤ k2) := hide (by have := B1.out.size; have := Hp.out; omega)
  have B2 := hide (B1.out.trans (hK.below (B := p) (by have := B1.out.size; have := Hp.out; omega) (fun b hb => by omega)))
  have HW2 := hide hW
  clear hW hK hk2 HW
  dsimp only
  go_wp2_with (fail)
  (with_reducible refine (winadd_any p k2 5 1 90 1 [(1, 100, 1)] 2 104 3 _ HW2.out H4.out.1 (by simp) (by decide)).mono ?_)
  rintro e w3 ⟨rfl, k3, hk3, hW, hK⟩
  rw [if_pos H2.out] at hW ⊢
  rw [if_pos H2.out] at hW
  have K3 : Hid (p ≤ k3) := hide (by have := K2.out; have := B2.out.size; have := Hp.out; omega)
  have B3 := hide (B2.out.trans (hK.below (B := p) (by have := B2.out.size; have := Hp.out; omega) (fun b hb => by have := K2.out; omega)))
  have HW3 := hide hW
  clear hW hK hk3 HW2
  dsimp only
  go_wp2_with (fail)
  (with_reducible refine (mean_any p k3 5 1 90 2 3 [(1, 100, 1), (2, 104, 3)] _ HW3.out H4.out.2 (by simp) (by decide) (by decide)).mono ?_)
  rintro e w4 ⟨rfl, hW, hK⟩
  rw [H3.out.2.2.1, H3.out.2.2.2] at hW
  rw [H3.out.1, H3.out.2.1]
  have B4 := hide (B3.out.trans (hK.below (B := p) (by have := B3.out.size; have := Hp.out; omega) (fun b hb => by omega)))
  have HW4 := hide hW
  clear hW hK HW3
  dsimp only
  go_wp2_with (fail)
  (with_reducible refine (ref_any p k3 5 1 90 3 _ _ HW4.out).mono ?_)
  rintro e w ⟨rfl, rfl⟩
  dsimp only
  go_wp2_with (fail)
  (with_reducible refine (len_win p k3 5 1 90 3 _ _ HW4.out).mono ?_)
  rintro e w ⟨rfl, rfl⟩
  dsimp only
  go_wp2
  go_ret
  exact ⟨rfl, by have := B4.out; rw [Hp.out] at this; exact this⟩
end Go.Proofs.Ytadilccdipcmnaa
