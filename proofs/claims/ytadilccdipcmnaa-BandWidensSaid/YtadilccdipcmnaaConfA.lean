/- Package config: what a symbol's check comes to. Arguments: any symbol. -/
import Derived.Test.YtadilccdipcmnaaFixH
namespace Go.Proofs.Ytadilccdipcmnaa
open Go Go.RowKit

def goodN (lo hi n : Int) : Bool := decide (lo ≤ n ∧ n ≤ hi)
set_option maxRecDepth 100000 in
set_option maxHeartbeats 2000000 in
theorem one_any (n lo hi : Int) (p q : Nat) (w : World) (hp : w.cell? ⟨p, 0, none⟩ = some (.int .i64 lo)) (hq : w.cell? ⟨q, 0, none⟩ = some (.int .i64 hi)) :
    Calls Try.prog 136 #[.int .i64 n, .pointer (some ⟨p, 0, none⟩), .pointer (some ⟨q, 0, none⟩)] w fun e w' => e = .returned (.bool (!goodN lo hi n)) ∧ w' = w := by
  by_cases h1 : lo ≤ n
  · by_cases h2 : n ≤ hi
    · rw [show goodN lo hi n = true from decide_eq_true ⟨h1, h2⟩]
      go_enter Try.func136, Try.ntmps136
      go_wp2
      go_ret
      exact ⟨by simp <;> omega, rfl⟩
    · rw [show goodN lo hi n = false from decide_eq_false (by omega)]
      go_enter Try.func136, Try.ntmps136
      go_wp2
      go_ret
      exact ⟨rfl, rfl⟩
  · rw [show goodN lo hi n = false from decide_eq_false (by omega)]
    go_enter Try.func136, Try.ntmps136
    go_wp2
    go_ret
    exact ⟨rfl, rfl⟩
theorem all_not {f : Int → Bool} {zs : List Int} {k : Nat} (hk : k < zs.length) (h : f (zs.getD k 0) = false) : zs.all f = false := by
  rw [List.all_eq_false]
  have e : zs.getD k 0 = zs[k] := by simp [hk]
  rw [e] at h
  exact ⟨zs[k], List.getElem_mem hk, by rw [h]; simp⟩
theorem all_yes {f : Int → Bool} {zs : List Int} (h : ∀ j, j < zs.length → f (zs.getD j 0) = true) : zs.all f = true := by
  rw [List.all_eq_true]
  intro x hx
  obtain ⟨j, hj, rfl⟩ := List.getElem_of_mem hx
  have := h j hj
  have e : zs.getD j 0 = zs[j] := by simp [hj]
  rwa [e] at this
set_option maxRecDepth 100000 in
set_option maxHeartbeats 2000000 in
theorem index_any (zs : List Int) (lo hi : Int) (b p q : Nat) (w : World) (hz : zs.length ≤ 6) (hp : w.cell? ⟨p, 0, none⟩ = some (.int .i64 lo)) (hq : w.cell? ⟨q, 0, none⟩ = some (.int .i64 hi))
    (hc : ∀ j, j < zs.length → w.cell? ⟨b, j, none⟩ = some (.int .i64 (zs.getD j 0))) :
    Calls Try.prog 139 #[.slice (some ⟨b, 0, none⟩) zs.length zs.length, .func (.func 136) #[] #[.pointer (some ⟨p, 0, none⟩), .pointer (some ⟨q, 0, none⟩)]] w fun e w' => (∃ r, e = .returned (.int .i64 r) ∧ decide (0 ≤ r) = !(zs.all (goodN lo hi))) ∧ w' = w := by
  have HP := hide hp
  have HQ := hide hq
  have HC := hide hc
  clear hp hq hc
  obtain ⟨N, hN⟩ : ∃ N, N = zs.length := ⟨_, rfl⟩
  rw [← hN] at hz ⊢
  have HN := hide hN
  clear hN
  go_enter Try.func139, Try.ntmps139
  go_wp2
  go_loopw [8] (fun i wr => ∃ k : Nat, k ≤ N ∧ i = .int .i64 k ∧ wr = w ∧ (∀ j, j < k → goodN lo hi (zs.getD j 0) = true)) (fun i _ => N - (intOf i).toNat)
  case atStart => exact ⟨0, by omega, rfl, rfl, fun j hj => by omega⟩
  case round =>
    obtain ⟨k, hk, rfl, rfl, hall⟩ := hrel
    have HA := hide hall
    clear hall
    by_cases hlt : k < N
    · obtain ⟨z, hz2⟩ : ∃ z, z = zs.getD k 0 := ⟨_, rfl⟩
      have c0 := HC.out k (by have := HN.out; omega)
      rw [← hz2] at c0
      have HZ := hide hz2
      clear hz2
      go_wp2_with (fail)
      (with_reducible refine (one_any z lo hi p q _ HP.out HQ.out).mono ?_)
      rintro e w1 ⟨rfl, rfl⟩
      dsimp only
      cases hg : goodN lo hi z
      · go_wp2
        go_ret
        refine ⟨⟨_, rfl, ?_⟩, rfl⟩
        rw [HZ.out] at hg
        rw [all_not (by have := HN.out; omega) hg]
        simp
      · go_wp2
        go_roundw
        case rel =>
          refine ⟨k + 1, by omega, by go_num, by trivial, fun j hj => ?_⟩
          by_cases hjk : j = k
          · rw [hjk, ← HZ.out]; exact hg
          · exact HA.out j (by omega)
        case measure => simp [intOf] <;> omega
    · have hkN : k = N := by omega
      subst hkN
      go_wp2
      go_ret
      refine ⟨⟨_, rfl, ?_⟩, rfl⟩
      rw [all_yes (fun j hj => HA.out j (by have := HN.out; omega))]
      simp
end Go.Proofs.Ytadilccdipcmnaa
