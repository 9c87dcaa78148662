/- The law WindowBetween: the plain law and the walk. -/
import Derived.Test.YtadilccdipcmnaaWinG
namespace Go.Proofs.Ytadilccdipcmnaa
open Go Go.RowKit

/-- Two of the program's windows, side by side; below B nothing has turned. -/
def Twin (B : Nat) (w0 w : World) (p p2 : Nat) (sp g la lb : Int) (La Lb : List Trd) : Prop :=
  ∃ k k2, PWin w p k sp g g la La ∧ PWin w p2 k2 sp g g lb Lb ∧ (p ≠ p2 ∧ p ≠ k2 ∧ k ≠ p2 ∧ k ≠ k2) ∧ (B ≤ p ∧ B ≤ p2 ∧ B ≤ k ∧ B ≤ k2) ∧ Below B w0 w
section
variable {B : Nat} {w0 w w' : World} {p p2 k k2 : Nat} {sp g la lb l' : Int} {La Lb L' : List Trd}
theorem Twin.base (h : Twin B w0 w p p2 sp g la lb La Lb) : Below B w0 w := by
  obtain ⟨_, _, _, _, _, _, h⟩ := h
  exact h
theorem Twin.one (h1 : PWin w p k sp g g la La) (h2 : PWin w p2 k2 sp g g lb Lb) (hn : p ≠ p2 ∧ p ≠ k2 ∧ k ≠ p2 ∧ k ≠ k2) (hB : B ≤ p ∧ B ≤ p2 ∧ B ≤ k ∧ B ≤ k2) (hb : Below B w0 w) {k' : Nat} (hk : k' = k ∨ w.heap.size ≤ k') (hW : PWin w' p k' sp g g l' L') (hK : Keeps (fun b => b = p ∨ b = k) w w') :
    Twin B w0 w' p p2 sp g l' lb L' Lb := by
  have a1 := h1.lt
  have a2 := h2.lt
  exact ⟨k', k2, hW, h2.keep hK (by omega) (by omega), by omega, by omega, hb.trans (hK.below (by omega) (fun b hb => by omega))⟩
theorem Twin.two (h1 : PWin w p k sp g g la La) (h2 : PWin w p2 k2 sp g g lb Lb) (hn : p ≠ p2 ∧ p ≠ k2 ∧ k ≠ p2 ∧ k ≠ k2) (hB : B ≤ p ∧ B ≤ p2 ∧ B ≤ k ∧ B ≤ k2) (hb : Below B w0 w) {k' : Nat} (hk : k' = k2 ∨ w.heap.size ≤ k') (hW : PWin w' p2 k' sp g g l' L') (hK : Keeps (fun b => b = p2 ∨ b = k2) w w') :
    Twin B w0 w' p p2 sp g la l' La L' := by
  have a1 := h1.lt
  have a2 := h2.lt
  exact ⟨k, k', h1.keep hK (by omega) (by omega), hW, by omega, by omega, hb.trans (hK.below (by omega) (fun b hb => by omega))⟩
theorem twin_add1 {tick price qty : Int} (h : Twin B w0 w p p2 sp g la lb La Lb) (hL : ∀ t ∈ La, okT t) (hl : La.length ≤ 200) (ha : addP la tick price qty) :
    Calls Try.prog 89 #[.pointer (some ⟨p, 0, none⟩), .int .i64 tick, .int .i64 price, .int .i64 qty] w fun e w' => e = .returned (.int .i64 0) ∧ Twin B w0 w' p p2 sp g tick lb (La ++ [(tick, price, qty)]) Lb := by
  obtain ⟨k, k2, h1, h2, hn, hB, hb⟩ := h
  refine (add_ok p k sp g g la La tick price qty w h1 hL hl ha.1 ha.2.1 ha.2.2).mono ?_
  rintro e w' ⟨rfl, k', hk, hW, hK⟩
  exact ⟨rfl, Twin.one h1 h2 hn hB hb hk hW hK⟩
theorem twin_add2 {tick price qty : Int} (h : Twin B w0 w p p2 sp g la lb La Lb) (hL : ∀ t ∈ Lb, okT t) (hl : Lb.length ≤ 200) (ha : addP lb tick price qty) :
    Calls Try.prog 89 #[.pointer (some ⟨p2, 0, none⟩), .int .i64 tick, .int .i64 price, .int .i64 qty] w fun e w' => e = .returned (.int .i64 0) ∧ Twin B w0 w' p p2 sp g la tick La (Lb ++ [(tick, price, qty)]) := by
  obtain ⟨k, k2, h1, h2, hn, hB, hb⟩ := h
  refine (add_ok p2 k2 sp g g lb Lb tick price qty w h2 hL hl ha.1 ha.2.1 ha.2.2).mono ?_
  rintro e w' ⟨rfl, k', hk, hW, hK⟩
  exact ⟨rfl, Twin.two h1 h2 hn hB hb hk hW hK⟩
theorem twin_mean1 {tick : Int} (h : Twin B w0 w p p2 sp g la lb La Lb) (hL : ∀ t ∈ La, okT t) (hl : La.length ≤ 300) (hs : 1 ≤ sp ∧ sp ≤ 1099511627776) (hg : 1 ≤ g ∧ g ≤ 1099511627776) (hc : comesF la tick = true) :
    Calls Try.prog 90 #[.pointer (some ⟨p, 0, none⟩), .int .i64 tick] w fun e w' => e = .returned (.tuple #[.int .i64 (meanV g (dropW (tick - sp) La)), .bool (!(dropW (tick - sp) La).isEmpty)]) ∧ Twin B w0 w' p p2 sp g tick lb (dropW (tick - sp) La) Lb := by
  obtain ⟨k, k2, h1, h2, hn, hB, hb⟩ := h
  refine (mean_ok p k sp g g la tick La w h1 hL hl hs hg hc).mono ?_
  rintro e w' ⟨rfl, hW, hK⟩
  exact ⟨rfl, Twin.one h1 h2 hn hB hb (.inl rfl) hW (hK.mono (fun b hb => .inl hb))⟩
theorem twin_mean2 {tick : Int} (h : Twin B w0 w p p2 sp g la lb La Lb) (hL : ∀ t ∈ Lb, okT t) (hl : Lb.length ≤ 300) (hs : 1 ≤ sp ∧ sp ≤ 1099511627776) (hg : 1 ≤ g ∧ g ≤ 1099511627776) (hc : comesF lb tick = true) :
    Calls Try.prog 90 #[.pointer (some ⟨p2, 0, none⟩), .int .i64 tick] w fun e w' => e = .returned (.tuple #[.int .i64 (meanV g (dropW (tick - sp) Lb)), .bool (!(dropW (tick - sp) Lb).isEmpty)]) ∧ Twin B w0 w' p p2 sp g la tick La (dropW (tick - sp) Lb) := by
  obtain ⟨k, k2, h1, h2, hn, hB, hb⟩ := h
  refine (mean_ok p2 k2 sp g g lb tick Lb w h2 hL hl hs hg hc).mono ?_
  rintro e w' ⟨rfl, hW, hK⟩
  exact ⟨rfl, Twin.two h1 h2 hn hB hb (.inl rfl) hW (hK.mono (fun b hb => .inl hb))⟩
end
/-- The trades of so many prices, all at one tick, of one quantity. -/
def tradesT (tick qty : Int) (z : Nat → Int) (j : Nat) : List Trd := (List.range j).map fun i => (tick, z i, qty)
theorem tradesT_succ (tick qty : Int) (z : Nat → Int) (j : Nat) : tradesT tick qty z (j + 1) = tradesT tick qty z j ++ [(tick, z j, qty)] := by
  simp [tradesT, List.range_succ]
theorem tradesT_mem {tick qty : Int} {z : Nat → Int} {j : Nat} {t : Trd} (h : t ∈ tradesT tick qty z j) : ∃ i, i < j ∧ t = (tick, z i, qty) := by
  simp only [tradesT, List.mem_map, List.mem_range] at h
  obtain ⟨i, hi, rfl⟩ := h
  exact ⟨i, hi, rfl⟩
theorem dropW_none {c : Int} {L : List Trd} (h : ∀ t ∈ L, c < t.1) : dropW c L = L := by
  cases L with
  | nil => rfl
  | cons t l =>
    unfold dropW
    rw [if_neg (by have := h t (by simp); omega)]
theorem sums_between {L : List Trd} {lo hi : Int} (h : ∀ t ∈ L, okT t) (hb : ∀ t ∈ L, lo ≤ t.2.1 ∧ t.2.1 ≤ hi) : lo * qSum L ≤ wSum L ∧ wSum L ≤ hi * qSum L := by
  induction L with
  | nil => simp [wSum, qSum]
  | cons t l ih =>
    obtain ⟨i1, i2⟩ := ih (fun x hx => h x (by simp [hx])) (fun x hx => hb x (by simp [hx]))
    obtain ⟨b1, b2⟩ := hb t (by simp)
    have hq := (h t (by simp)).2.2
    have e1 := Int.mul_le_mul_of_nonneg_right b1 (show 0 ≤ t.2.2 by omega)
    have e2 := Int.mul_le_mul_of_nonneg_right b2 (show 0 ≤ t.2.2 by omega)
    simp only [wSum, qSum, Int.mul_add]
    omega
/-- A mean lies between the least and the greatest price, brought down to the grid. -/
theorem between_law {L : List Trd} {lo hi g : Int} (h : ∀ t ∈ L, okT t) (hl : L.length ≤ 300) (hn : L ≠ []) (hb : ∀ t ∈ L, lo ≤ t.2.1 ∧ t.2.1 ≤ hi) (hg : 1 ≤ g ∧ g ≤ 1099511627776) :
    meanV g L % g = 0 ∧ meanV g L ≤ max hi g ∧ lo < meanV g L + g ∧ g ≤ meanV g L ∧ meanV g L ≤ 1099511627776 := by
  obtain ⟨b1, b2, b3, b4, b5, b6, b7⟩ := mean_bds h hl hn
  obtain ⟨s1, s2⟩ := sums_between h hb
  have he : L.isEmpty = false := by cases L with | nil => exact absurd rfl hn | cons => rfl
  have e : meanV g L = max (wSum L / qSum L - wSum L / qSum L % g) g := by
    unfold meanV
    rw [he, if_neg (by simp), down_in b5 hg.1]
  have v1 : lo ≤ wSum L / qSum L := (Int.le_ediv_iff_mul_le b1).2 s1
  have v2 : wSum L / qSum L ≤ hi := Int.ediv_le_of_le_mul b1 s2
  have m1 := Int.emod_nonneg (wSum L / qSum L) (show g ≠ 0 by omega)
  have m2 := Int.emod_lt_of_pos (wSum L / qSum L) (show 0 < g by omega)
  have m3 : (wSum L / qSum L - wSum L / qSum L % g) % g = 0 := Int.emod_eq_zero_of_dvd (Int.dvd_self_sub_emod)
  rw [e]
  generalize wSum L / qSum L = V at *
  refine ⟨?_, by omega, by omega, by omega, by omega⟩
  rw [Int.max_def]
  split
  · exact Int.emod_self
  · exact m3
theorem newP_grid {sp g : Int} (hs : 1 ≤ sp ∧ sp ≤ 1099511627776) (hg : 1 ≤ g ∧ g ≤ 1099511627776) : newP sp g g := by
  refine ⟨hs, hg.2, ?_⟩
  unfold pricedF priceF
  rw [if_neg (by omega), if_neg (by omega), if_pos Int.emod_self]
  rfl
end Go.Proofs.Ytadilccdipcmnaa
