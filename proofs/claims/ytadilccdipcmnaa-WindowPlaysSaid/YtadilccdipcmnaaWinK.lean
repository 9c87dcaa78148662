/- Both windows side by side: what an act does to them. Arguments: any act; windows of at most 150 trades. -/
import Derived.Test.YtadilccdipcmnaaWinJ
namespace Go.Proofs.Ytadilccdipcmnaa
open Go Go.RowKit

theorem wins_apart {w : World} {p k q k2 : Nat} {sp g r la sp2 g2 r2 la2 : Int} {L L2 : List Trd} (hp : PWin w p k sp g r la L) (hr : RWin w q k2 sp2 g2 r2 la2 L2) : p ≠ q ∧ p ≠ k2 ∧ k ≠ q ∧ k ≠ k2 := by
  obtain ⟨sl, h1, h2, h3⟩ := hp
  obtain ⟨sl2, e1, e2, e3⟩ := hr
  have a1 : p ≠ q := by
    rintro rfl
    unfold PBlk at h1
    unfold RBlk at e1
    rw [h1] at e1
    simp at e1
  have a2 : p ≠ k2 := by
    obtain ⟨_, ⟨e4, _⟩ | ⟨_, _, _, _, e4, _⟩⟩ := e2
    · rw [e3 e4]
      exact a1
    · rintro rfl
      unfold PBlk at h1
      rw [h1] at e4
      simp at e4
  have a3 : k ≠ q := by
    obtain ⟨_, ⟨h4, _⟩ | ⟨_, _, _, _, h4, _⟩⟩ := h2
    · rw [h3 h4]
      exact a1
    · rintro rfl
      unfold RBlk at e1
      rw [h4] at e1
      simp at e1
  refine ⟨a1, a2, a3, ?_⟩
  obtain ⟨_, ⟨h4, _⟩ | ⟨_, _, _, _, h4, _⟩⟩ := h2
  · rw [h3 h4]
    exact a2
  · obtain ⟨_, ⟨e4, _⟩ | ⟨_, _, _, _, e4, _⟩⟩ := e2
    · rw [e3 e4]
      exact a3
    · rintro rfl
      rw [h4] at e4
      simp at e4
/-- Both windows, each in its state; below B nothing has turned. -/
def Dual (B : Nat) (w0 w : World) (p q : Nat) (sp g r1 l1 : Int) (L1 : List Trd) (r2 l2 : Int) (L2 : List Trd) : Prop :=
  ∃ k k2, PWin w p k sp g r1 l1 L1 ∧ RWin w q k2 sp g r2 l2 L2 ∧ B ≤ p ∧ B ≤ q ∧ B ≤ k ∧ Below B w0 w
section
variable {B : Nat} {w0 w w' : World} {p q k k2 : Nat} {sp g r1 l1 r2 l2 r' l' : Int} {L1 L2 L' : List Trd}
theorem Dual.below (h : Dual B w0 w p q sp g r1 l1 L1 r2 l2 L2) (hb : Below w.heap.size w w') : Dual B w0 w' p q sp g r1 l1 L1 r2 l2 L2 := by
  obtain ⟨k, k2, h1, h2, h3, h4, h5, h6⟩ := h
  exact ⟨k, k2, h1.keep (Keeps.of_below (S := fun _ => False) hb) (fun h => h) (fun h => h), h2.keep (Keeps.of_below (S := fun _ => False) hb) (fun h => h) (fun h => h), h3, h4, h5, h6.trans (hb.mono (by have := h1.lt.1; omega))⟩
theorem Dual.drew (h : Dual B w0 w p q sp g r1 l1 L1 r2 l2 L2) : Dual B w0 w.drew p q sp g r1 l1 L1 r2 l2 L2 := by
  obtain ⟨k, k2, h1, h2, h3, h4, h5, h6⟩ := h
  exact ⟨k, k2, h1, h2, h3, h4, h5, h6.drew⟩
theorem Dual.prog (h1 : PWin w p k sp g r1 l1 L1) (h2 : RWin w q k2 sp g r2 l2 L2) (h3 : B ≤ p) (h4 : B ≤ q) (h5 : B ≤ k) (h6 : Below B w0 w) {k' : Nat} (hk : k' = k ∨ k' = p ∨ w.heap.size ≤ k') (hW : PWin w' p k' sp g r' l' L') (hK : Keeps (fun b => b = p ∨ b = k) w w') :
    Dual B w0 w' p q sp g r' l' L' r2 l2 L2 := by
  obtain ⟨a1, a2, a3, a4⟩ := wins_apart h1 h2
  have lp := h1.lt.1
  exact ⟨k', k2, hW, h2.keep hK (by omega) (by omega), h3, h4, by omega, h6.trans (hK.below (by omega) (fun b hb => by omega))⟩
theorem Dual.refd (h1 : PWin w p k sp g r1 l1 L1) (h2 : RWin w q k2 sp g r2 l2 L2) (h3 : B ≤ p) (h4 : B ≤ q) (h5 : B ≤ k) (h6 : Below B w0 w) {k' : Nat} (hW : RWin w' q k' sp g r' l' L') (hK : Keeps (fun b => b = q) w w') :
    Dual B w0 w' p q sp g r1 l1 L1 r' l' L' := by
  obtain ⟨a1, a2, a3, a4⟩ := wins_apart h1 h2
  have lp := h1.lt.1
  exact ⟨k, k', h1.keep hK (by omega) (by omega), hW, h3, h4, h5, h6.trans (hK.below (by omega) (fun b hb => by omega))⟩
end
/-- Block b is a variable of an act. -/
def ABlk (w : World) (b : Nat) (ka ti pr qt bp : Int) : Prop := w.heap[b]? = some (.cells #[.int .i64 ka, .int .i64 ti, .int .i64 pr, .int .i64 qt, .int .i64 bp] 98 (0, 0))
section
variable {S : Nat → Prop} {w w' : World} {b p k : Nat} {ka ti pr qt bp sp g r la : Int} {L : List Trd}
theorem ABlk.lt (h : ABlk w b ka ti pr qt bp) : b < w.heap.size := lt_of_block h
theorem ABlk.keep (h : ABlk w b ka ti pr qt bp) (hk : Keeps S w w') (hn : ¬ S b) : ABlk w' b ka ti pr qt bp := hk.heap h hn
theorem ABlk.below (h : ABlk w b ka ti pr qt bp) (hb : Below w.heap.size w w') : ABlk w' b ka ti pr qt bp := h.keep (Keeps.of_below (S := fun _ => False) hb) (fun h => h)
theorem ABlk.cell (h : ABlk w b ka ti pr qt bp) (i : Nat) {v : Value} (hi : (#[.int .i64 ka, .int .i64 ti, .int .i64 pr, .int .i64 qt, .int .i64 bp] : Array Value)[i]? = some v) : w.cell? ⟨b, i, none⟩ = some v := by
  rw [cell_of_row w b i _ _ _ h]
  exact hi
theorem ABlk.apartP (h : ABlk w b ka ti pr qt bp) (hp : PWin w p k sp g r la L) : b ≠ p ∧ b ≠ k := by
  obtain ⟨sl, h1, h2, h3⟩ := hp
  have a1 : b ≠ p := by
    rintro rfl
    unfold PBlk at h1
    unfold ABlk at h
    rw [h] at h1
    simp at h1
  refine ⟨a1, ?_⟩
  obtain ⟨_, ⟨h4, _⟩ | ⟨_, _, _, _, h4, _⟩⟩ := h2
  · rw [h3 h4]
    exact a1
  · rintro rfl
    unfold ABlk at h
    rw [h] at h4
    simp at h4
theorem ABlk.apartR (h : ABlk w b ka ti pr qt bp) (hp : RWin w p k sp g r la L) : b ≠ p := by
  obtain ⟨sl, h1, h2, h3⟩ := hp
  rintro rfl
  unfold RBlk at h1
  unfold ABlk at h
  rw [h] at h1
  simp at h1
end
/-- What an act's region keeps: i and j are the numbers of the two calls. -/
structure ActC (B : Nat) (w0 : World) (p q ab : Nat) (sp g ka ti pr qt bp r la r' la' : Int) (L L' : List Trd) (i j : Nat) (gg : Nat → Bool) (w : World) : Prop where
  A : ABlk w ab ka ti pr qt bp
  D : ∃ r1 l1 L1 r2 l2 L2, Dual B w0 w p q sp g r1 l1 L1 r2 l2 L2 ∧ (gg i = false → r1 = r ∧ l1 = la ∧ L1 = L) ∧ (gg i = true → r1 = r' ∧ l1 = la' ∧ L1 = L') ∧ (gg j = false → r2 = r ∧ l2 = la ∧ L2 = L) ∧ (gg j = true → r2 = r' ∧ l2 = la' ∧ L2 = L')
section
variable {B : Nat} {w0 w w' : World} {p q ab i j : Nat} {sp g ka ti pr qt bp r la r' la' : Int} {L L' : List Trd} {gg : Nat → Bool}
theorem ActC.drew (h : ActC B w0 p q ab sp g ka ti pr qt bp r la r' la' L L' i j gg w) : ActC B w0 p q ab sp g ka ti pr qt bp r la r' la' L L' i j gg w.drew := by
  obtain ⟨h1, r1, l1, L1, r2, l2, L2, h2, h3⟩ := h
  exact ⟨h1, r1, l1, L1, r2, l2, L2, h2.drew, h3⟩
theorem ActC.mark (h : ActC B w0 p q ab sp g ka ti pr qt bp r la r' la' L L' i j gg w) {n : Nat} (h1 : i ≠ n) (h2 : j ≠ n) : ActC B w0 p q ab sp g ka ti pr qt bp r la r' la' L L' i j (mark gg n) w := by
  have e1 : Ytadilccdipcmnaa.mark gg n i = gg i := by simp [Ytadilccdipcmnaa.mark, h1]
  have e2 : Ytadilccdipcmnaa.mark gg n j = gg j := by simp [Ytadilccdipcmnaa.mark, h2]
  obtain ⟨a, r1, l1, L1, r2, l2, L2, h3, h4⟩ := h
  exact ⟨a, r1, l1, L1, r2, l2, L2, h3, by rw [e1, e2]; exact h4⟩
end
/-- A window that stands right, of at most n trades. -/
structure OkW (n : Nat) (sp g r la : Int) (L : List Trd) : Prop where
  T : ∀ t ∈ L, okT t
  N : L.length ≤ n
  O : L.Pairwise (fun a b => a.1 ≤ b.1)
  M : ∀ t ∈ L, t.1 ≤ la
  S : 1 ≤ sp ∧ sp ≤ 1099511627776
  G : 1 ≤ g ∧ g ≤ 1099511627776
  R : 1 ≤ r ∧ r ≤ 1099511627776
theorem dropW_sub (c : Int) (L : List Trd) : List.Sublist (dropW c L) L := by
  induction L with
  | nil => exact List.Sublist.refl _
  | cons t l ih =>
    unfold dropW
    split
    · exact List.Sublist.cons _ ih
    · exact List.Sublist.refl _
section
variable {n : Nat} {sp g r la ti pr qt bp : Int} {L : List Trd}
theorem OkW.add (h : OkW n sp g r la L) : OkW (n + 1) sp g r (if addP la ti pr qt then ti else la) (if addP la ti pr qt then L ++ [(ti, pr, qt)] else L) := by
  by_cases ha : addP la ti pr qt
  · rw [if_pos ha, if_pos ha]
    have hc := of_decide_eq_true ha.1
    refine ⟨fun t ht => ?_, by simp; exact h.N, ?_, fun t ht => ?_, h.S, h.G, h.R⟩
    · rcases List.mem_append.1 ht with h' | h'
      · exact h.T t h'
      · simp at h'
        subst h'
        exact ⟨hc.2, ha.2.1, ha.2.2⟩
    · rw [List.pairwise_append]
      refine ⟨h.O, by simp, fun a ha' b hb => ?_⟩
      simp at hb
      subst hb
      have := h.M a ha'
      show a.1 ≤ ti
      omega
    · rcases List.mem_append.1 ht with h' | h'
      · have := h.M t h'
        omega
      · simp at h'
        subst h'
        exact Int.le_refl _
  · rw [if_neg ha, if_neg ha]
    exact ⟨h.T, by have := h.N; omega, h.O, h.M, h.S, h.G, h.R⟩
theorem OkW.mean (h : OkW n sp g r la L) : OkW (n + 1) sp g r (mnT la ti) (mnL sp la ti L) := by
  obtain ⟨h1, h2⟩ := mnL_ok (sp := sp) (la := la) (tick := ti) h.T
  refine ⟨h1, by have := h.N; omega, ?_, ?_, h.S, h.G, h.R⟩
  · unfold mnL
    split
    · exact h.O.sublist (dropW_sub _ _)
    · exact h.O
  · intro t ht
    unfold mnL at ht
    unfold mnT
    split at ht
    · rename_i hc
      rw [if_pos hc]
      have h3 := of_decide_eq_true hc
      have := h.M t ((dropW_sub _ _).subset ht)
      omega
    · rename_i hc
      rw [if_neg hc]
      exact h.M t ht
theorem OkW.ref (h : OkW n sp g r la L) {r' : Int} (hr : 1 ≤ r' ∧ r' ≤ 1099511627776) : OkW n sp g r' la L := ⟨h.T, h.N, h.O, h.M, h.S, h.G, hr⟩
theorem OkW.mono (h : OkW n sp g r la L) {m : Nat} (hm : n ≤ m) : OkW m sp g r la L := ⟨h.T, by have := h.N; omega, h.O, h.M, h.S, h.G, h.R⟩
theorem OkW.roll (h : OkW n sp g r la L) (hn : n ≤ 300) : 1 ≤ rlR sp g r la ti bp L ∧ rlR sp g r la ti bp L ≤ 1099511627776 := by
  unfold rlR
  split
  · rename_i hb
    have hv := mnV_bd (sp := sp) (g := g) (la := la) (tick := ti) h.T (Nat.le_trans h.N hn) h.G
    have hm : movedF r (mnV sp g la ti L) bp = true := by
      unfold rlB at hb
      simp at hb
      exact hb.2
    have := (of_decide_eq_true hm).1.2.1
    omega
  · exact h.R
theorem OkW.reset (h : OkW n sp g r la L) : OkW (n + 1) sp g (rsR g r pr) la (rsL g pr L) := by
  unfold rsR rsL
  cases hp : pricedF pr g
  · exact h.mono (by omega)
  · have := priced_grid hp
    exact ⟨by simp, by simp, by simp, by simp, h.S, h.G, by simp; omega⟩
end
def stR (sp g r la ka ti pr bp : Int) (L : List Trd) : Int := if ka = 0 then r else if ka = 1 then r else if ka = 2 then rlR sp g r la ti bp L else rsR g r pr
def stA (la ka ti pr qt : Int) : Int := if ka = 0 then (if addP la ti pr qt then ti else la) else if ka = 1 then mnT la ti else if ka = 2 then mnT la ti else la
def stL (sp g la ka ti pr qt : Int) (L : List Trd) : List Trd := if ka = 0 then (if addP la ti pr qt then L ++ [(ti, pr, qt)] else L) else if ka = 1 then mnL sp la ti L else if ka = 2 then mnL sp la ti L else rsL g pr L
set_option maxRecDepth 100000 in
set_option maxHeartbeats 4000000 in
theorem act_any (B p q n : Nat) (sp g r la ka ti pr qt bp : Int) (L : List Trd) (w0 w : World) (hD : Dual B w0 w p q sp g r la L r la L) (hO : OkW n sp g r la L) (hn : n ≤ 150) (hp : okI pr) :
    Calls Try.prog 94 #[.pointer (some ⟨p, 0, none⟩), .pointer (some ⟨q, 0, none⟩), .agg #[.int .i64 ka, .int .i64 ti, .int .i64 pr, .int .i64 qt, .int .i64 bp]] w fun e w' => e = .returned (.bool true) ∧ Dual B w0 w' p q sp g (stR sp g r la ka ti pr bp L) (stA la ka ti pr qt) (stL sp g la ka ti pr qt L) (stR sp g r la ka ti pr bp L) (stA la ka ti pr qt) (stL sp g la ka ti pr qt L) ∧ OkW (n + 1) sp g (stR sp g r la ka ti pr bp L) (stA la ka ti pr qt) (stL sp g la ka ti pr qt L) := by
  have HO := hide hO
  have Hn := hide hn
  have HP := hide hp
  have hA : ABlk (w.alloc (.cells #[.int .i64 ka, .int .i64 ti, .int .i64 pr, .int .i64 qt, .int .i64 bp] 98)) w.heap.size ka ti pr qt bp := heap_alloc_new w _
  have HD := hide (hD.below ((Below.refl _ _).alloc (Nat.le_refl _) (.cells #[.int .i64 ka, .int .i64 ti, .int .i64 pr, .int .i64 qt, .int .i64 bp] 98)))
  have HA := hide hA
  have c0 := hA.cell 0 rfl
  clear hD hO hn hp hA
  by_cases k0 : ka = 0
  · have e0 : (ka == 0) = true := by simpa using k0
    have HE : Hid (stR sp g r la ka ti pr bp L = r ∧ stA la ka ti pr qt = (if addP la ti pr qt then ti else la) ∧ stL sp g la ka ti pr qt L = (if addP la ti pr qt then L ++ [(ti, pr, qt)] else L)) := hide ⟨if_pos k0, if_pos k0, if_pos k0⟩
    clear k0
    obtain ⟨F, hF⟩ : ∃ F : Int, F = if addP la ti pr qt then 0 else 9 := ⟨_, rfl⟩
    have HF := hide hF
    clear hF
    go_enter Try.func94, Try.ntmps94
    go_wp2
    have hC : ActC B w0 p q w.heap.size sp g ka ti pr qt bp r la r (if addP la ti pr qt then ti else la) L (if addP la ti pr qt then L ++ [(ti, pr, qt)] else L) 7 15 (fun _ => false) (w.alloc (.cells #[.int .i64 ka, .int .i64 ti, .int .i64 pr, .int .i64 qt, .int .i64 bp] 98)) := ⟨HA.out, _, _, _, _, _, _, HD.out, fun _ => ⟨rfl, rfl, rfl⟩, (fun h => by cases h), fun _ => ⟨rfl, rfl, rfl⟩, (fun h => by cases h)⟩
    clear c0
    refine wp_region_drawn3 (fun gg w' => ActC B w0 p q w.heap.size sp g ka ti pr qt bp r la r (if addP la ti pr qt then ti else la) L (if addP la ti pr qt then L ++ [(ti, pr, qt)] else L) 7 15 gg w') mixed (by kernel_rfl) hC.drew ?_
    clear hC
    refine lex3_val (v := .pointer (some ⟨p, 0, none⟩)) rfl (fun gg w' hc => hc.mark (by decide) (by decide)) (fun gg w' hg hc => exec_move _ rfl rfl) ?_
    refine lex3_val (v := .pointer (some ⟨w.heap.size, 1, none⟩)) rfl (fun gg w' hc => hc.mark (by decide) (by decide)) (fun gg w' hg hc => by clear hc hg; go_simp) ?_
    refine lex3_val (v := .int .i64 ti) rfl (fun gg w' hc => hc.mark (by decide) (by decide)) (fun gg w' hg hc => by have c := hc.A.cell 1 rfl; clear hc hg; go_simp) ?_
    simp only [Act.put, List.setIfInBounds_toArray, List.set_cons_zero, List.set_cons_succ]
    refine lex3_val (v := .pointer (some ⟨w.heap.size, 2, none⟩)) rfl (fun gg w' hc => hc.mark (by decide) (by decide)) (fun gg w' hg hc => by clear hc hg; go_simp) ?_
    refine lex3_val (v := .int .i64 pr) rfl (fun gg w' hc => hc.mark (by decide) (by decide)) (fun gg w' hg hc => by have c := hc.A.cell 2 rfl; clear hc hg; go_simp) ?_
    simp only [Act.put, List.setIfInBounds_toArray, List.set_cons_zero, List.set_cons_succ]
    refine lex3_val (v := .pointer (some ⟨w.heap.size, 3, none⟩)) rfl (fun gg w' hc => hc.mark (by decide) (by decide)) (fun gg w' hg hc => by clear hc hg; go_simp) ?_
    refine lex3_val (v := .int .i64 qt) rfl (fun gg w' hc => hc.mark (by decide) (by decide)) (fun gg w' hg hc => by have c := hc.A.cell 3 rfl; clear hc hg; go_simp) ?_
    simp only [Act.put, List.setIfInBounds_toArray, List.set_cons_zero, List.set_cons_succ]
    refine lex3_call (f := 89) (args := #[.pointer (some ⟨p, 0, none⟩), .int .i64 ti, .int .i64 pr, .int .i64 qt]) (v := .int .i64 (F)) rfl (fun w' => exec_call (by kernel_rfl) rfl rfl) (fun gg w' hg hc => ?_) ?_
    · obtain ⟨hA, r1, l1, L1, r2, l2, L2, ⟨k, k2, hP, hR, b1, b2, b3, b4⟩, e1, e2, e3, e4⟩ := hc
      obtain ⟨rfl, rfl, rfl⟩ := e1 hg.2.2
      refine (winadd_any p k sp g _ _ _ ti pr qt w' hP HO.out.T (by have := HO.out.N; have := Hn.out; omega) HP.out).mono ?_
      rintro e w'' ⟨rfl, k', hk', hW, hK⟩
      obtain ⟨n1, n2⟩ := hA.apartP hP
      exact ⟨by rw [← HF.out], hA.keep hK (by omega), _, _, _, _, _, _, Dual.prog hP hR b1 b2 b3 b4 (by omega) hW hK, (fun h => by simp [mark] at h), fun _ => ⟨rfl, rfl, rfl⟩, e3, e4⟩
    simp only [Act.put, List.setIfInBounds_toArray, List.set_cons_zero, List.set_cons_succ]
    refine lex3_val (v := .pointer (some ⟨q, 0, none⟩)) rfl (fun gg w' hc => hc.mark (by decide) (by decide)) (fun gg w' hg hc => exec_move _ rfl rfl) ?_
    refine lex3_val (v := .pointer (some ⟨w.heap.size, 1, none⟩)) rfl (fun gg w' hc => hc.mark (by decide) (by decide)) (fun gg w' hg hc => by clear hc hg; go_simp) ?_
    refine lex3_val (v := .int .i64 ti) rfl (fun gg w' hc => hc.mark (by decide) (by decide)) (fun gg w' hg hc => by have c := hc.A.cell 1 rfl; clear hc hg; go_simp) ?_
    simp only [Act.put, List.setIfInBounds_toArray, List.set_cons_zero, List.set_cons_succ]
    refine lex3_val (v := .pointer (some ⟨w.heap.size, 2, none⟩)) rfl (fun gg w' hc => hc.mark (by decide) (by decide)) (fun gg w' hg hc => by clear hc hg; go_simp) ?_
    refine lex3_val (v := .int .i64 pr) rfl (fun gg w' hc => hc.mark (by decide) (by decide)) (fun gg w' hg hc => by have c := hc.A.cell 2 rfl; clear hc hg; go_simp) ?_
    simp only [Act.put, List.setIfInBounds_toArray, List.set_cons_zero, List.set_cons_succ]
    refine lex3_val (v := .pointer (some ⟨w.heap.size, 3, none⟩)) rfl (fun gg w' hc => hc.mark (by decide) (by decide)) (fun gg w' hg hc => by clear hc hg; go_simp) ?_
    refine lex3_val (v := .int .i64 qt) rfl (fun gg w' hc => hc.mark (by decide) (by decide)) (fun gg w' hg hc => by have c := hc.A.cell 3 rfl; clear hc hg; go_simp) ?_
    simp only [Act.put, List.setIfInBounds_toArray, List.set_cons_zero, List.set_cons_succ]
    refine lex3_call (f := 130) (args := #[.pointer (some ⟨q, 0, none⟩), .int .i64 ti, .int .i64 pr, .int .i64 qt]) (v := .int .i64 (F)) rfl (fun w' => exec_call (by kernel_rfl) rfl rfl) (fun gg w' hg hc => ?_) ?_
    · obtain ⟨hA, r1, l1, L1, r2, l2, L2, ⟨k, k2, hP, hR, b1, b2, b3, b4⟩, e1, e2, e3, e4⟩ := hc
      obtain ⟨rfl, rfl, rfl⟩ := e3 hg.2.2
      refine (refwinadd_any q k2 sp g _ _ _ ti pr qt w' hR (by have := HO.out.N; have := Hn.out; omega)).mono ?_
      rintro e w'' ⟨rfl, k', hk', hW, hK⟩
      have n1 := hA.apartR hR
      exact ⟨by rw [← HF.out], hA.keep hK n1, _, _, _, _, _, _, Dual.refd hP hR b1 b2 b3 b4 hW hK, e1, e2, (fun h => by simp [mark] at h), fun _ => ⟨rfl, rfl, rfl⟩⟩
    simp only [Act.put, List.setIfInBounds_toArray, List.set_cons_zero, List.set_cons_succ]
    refine lex3_val (v := .bool true) rfl (fun gg w' hc => hc.mark (by decide) (by decide)) (fun gg w' hg hc => by clear hc hg; go_simp) ?_
    refine lex3_val (v := .bool true) rfl (fun gg w' hc => hc.mark (by decide) (by decide)) (fun gg w' hg hc => exec_assign _ rfl rfl) ?_
    simp only [Act.put, List.setIfInBounds_toArray, List.set_cons_zero, List.set_cons_succ]
    refine lex3_nil ?_
    rintro w1 ⟨-, r1, l1, L1, r2, l2, L2, hDD, -, e2, -, e4⟩
    obtain ⟨rfl, rfl, rfl⟩ := e2 rfl
    obtain ⟨rfl, rfl, rfl⟩ := e4 rfl
    have HDD := hide hDD
    clear e2 e4 hDD
    go_wp2
    go_ret
    exact ⟨rfl, by rw [HE.out.1, HE.out.2.1, HE.out.2.2]; exact HDD.out, by rw [HE.out.1, HE.out.2.1, HE.out.2.2]; exact HO.out.add⟩
  have e0 : (ka == 0) = false := by simpa using k0
  by_cases k1 : ka = 1
  · have e1 : (ka == 1) = true := by simpa using k1
    have HE : Hid (stR sp g r la ka ti pr bp L = r ∧ stA la ka ti pr qt = mnT la ti ∧ stL sp g la ka ti pr qt L = mnL sp la ti L) := hide ⟨(if_neg k0).trans (if_pos k1), (if_neg k0).trans (if_pos k1), (if_neg k0).trans (if_pos k1)⟩
    clear k0 k1
    obtain ⟨k, k2, hP, hR, b1, b2, b3, b4⟩ := HD.out
    have hl : L.length ≤ 300 := by have := HO.out.N; have := Hn.out; omega
    have M1 := hide (mean_any p k sp g r la ti L _ hP HO.out.T hl HO.out.S HO.out.G)
    have M2 := hide (fun (w' : World) (h : RWin w' q k2 sp g r la L) => refmean_any q k2 sp g r la ti L w' h HO.out.T (by have := HO.out.N; have := Hn.out; omega) HO.out.S HO.out.G HO.out.O)
    have HW := hide (And.intro hP (And.intro hR (And.intro b1 (And.intro b2 (And.intro b3 b4)))))
    have c1 := HA.out.cell 1 rfl
    have HA2 := hide HA.out
    clear hP hR b1 b2 b3 b4 hl
    obtain ⟨v, hv⟩ : ∃ v, v = mnV sp g la ti L := ⟨_, rfl⟩
    obtain ⟨bb, hbb⟩ : ∃ b, b = mnB sp la ti L := ⟨_, rfl⟩
    have Hv := hide hv
    have Hb := hide hbb
    clear hv hbb
    go_enter Try.func94, Try.ntmps94
    go_wp2_with (fail)
    (with_reducible refine (M1.out).mono ?_)
    rintro e w1 ⟨rfl, hW1, hK1⟩
    rw [← Hv.out, ← Hb.out]
    obtain ⟨hP, hR, b1, b2, b3, b4⟩ := HW.out
    obtain ⟨n1, n2⟩ := HA2.out.apartP hP
    obtain ⟨a1, a2, a3, a4⟩ := wins_apart hP hR
    have hR1 := hR.keep hK1 (fun h => a1 h.symm) (fun h => a2 h.symm)
    have hA1 := HA2.out.keep hK1 n1
    have D1 : Dual B w0 w1 p q sp g _ _ _ r la L := Dual.prog hP hR b1 b2 b3 b4 (.inl rfl) hW1 (hK1.mono (fun b hb => .inl hb))
    have HD1 := hide (And.intro D1 hR1)
    have HK1 := hide (And.intro b2 (And.intro (hK1.below (B := B) (by have := hP.lt; omega) (fun b hb => by omega)) (And.intro b4 (And.intro hW1 (And.intro b1 b3)))))
    clear hP hR b1 b2 b3 b4 hW1 hK1 a1 a2 a3 a4 n1 n2 D1 hR1 c0 c1
    have c1 := hA1.cell 1 rfl
    clear hA1
    dsimp only
    go_wp2_with (fail)
    (with_reducible refine (M2.out _ HD1.out.2).mono ?_)
    rintro e w2 ⟨rfl, ⟨k', hk', hW2⟩, hK2⟩
    rw [← Hv.out, ← Hb.out]
    have D2 : Dual B w0 w2 p q sp g (r) (mnT la ti) (mnL sp la ti L) (r) (mnT la ti) (mnL sp la ti L) := Dual.refd HK1.out.2.2.2.1 HD1.out.2 HK1.out.2.2.2.2.1 HK1.out.1 HK1.out.2.2.2.2.2 (HK1.out.2.2.1.trans HK1.out.2.1) hW2 hK2
    have HD2 := hide D2
    clear D2 hW2 hK2 hk' c1
    have hvv : (v == v) = true := by simp
    have hbb : (bb == bb) = true := by simp
    dsimp only
    go_wp2
    go_ret
    exact ⟨rfl, by rw [HE.out.1, HE.out.2.1, HE.out.2.2]; exact HD2.out, by rw [HE.out.1, HE.out.2.1, HE.out.2.2]; exact HO.out.mean⟩
  have e1 : (ka == 1) = false := by simpa using k1
  by_cases k3 : ka = 2
  · have e2 : (ka == 2) = true := by simpa using k3
    have HE : Hid (stR sp g r la ka ti pr bp L = rlR sp g r la ti bp L ∧ stA la ka ti pr qt = mnT la ti ∧ stL sp g la ka ti pr qt L = mnL sp la ti L) := hide ⟨(if_neg k0).trans ((if_neg k1).trans (if_pos k3)), (if_neg k0).trans ((if_neg k1).trans (if_pos k3)), (if_neg k0).trans ((if_neg k1).trans (if_pos k3))⟩
    clear k0 k1 k3
    obtain ⟨k, k2, hP, hR, b1, b2, b3, b4⟩ := HD.out
    have hl : L.length ≤ 300 := by have := HO.out.N; have := Hn.out; omega
    have M1 := hide (roll_any p k sp g r la ti bp L _ hP HO.out.T hl HO.out.S HO.out.G HO.out.R)
    have M2 := hide (fun (w' : World) (h : RWin w' q k2 sp g r la L) => refroll_any q k2 sp g r la ti bp L w' h HO.out.T (by have := HO.out.N; have := Hn.out; omega) HO.out.S HO.out.G HO.out.O)
    have HW := hide (And.intro hP (And.intro hR (And.intro b1 (And.intro b2 (And.intro b3 b4)))))
    have c1 := HA.out.cell 1 rfl
    have c4 := HA.out.cell 4 rfl
    have HA2 := hide HA.out
    clear hP hR b1 b2 b3 b4 hl
    obtain ⟨v, hv⟩ : ∃ v, v = rlR sp g r la ti bp L := ⟨_, rfl⟩
    obtain ⟨bb, hbb⟩ : ∃ b, b = rlB sp g r la ti bp L := ⟨_, rfl⟩
    have Hv := hide hv
    have Hb := hide hbb
    clear hv hbb
    go_enter Try.func94, Try.ntmps94
    go_wp2_with (fail)
    (with_reducible refine (M1.out).mono ?_)
    rintro e w1 ⟨rfl, hW1, hK1⟩
    rw [← Hv.out, ← Hb.out]
    obtain ⟨hP, hR, b1, b2, b3, b4⟩ := HW.out
    obtain ⟨n1, n2⟩ := HA2.out.apartP hP
    obtain ⟨a1, a2, a3, a4⟩ := wins_apart hP hR
    have hR1 := hR.keep hK1 (fun h => a1 h.symm) (fun h => a2 h.symm)
    have hA1 := HA2.out.keep hK1 n1
    have D1 : Dual B w0 w1 p q sp g _ _ _ r la L := Dual.prog hP hR b1 b2 b3 b4 (.inl rfl) hW1 (hK1.mono (fun b hb => .inl hb))
    have HD1 := hide (And.intro D1 hR1)
    have HK1 := hide (And.intro b2 (And.intro (hK1.below (B := B) (by have := hP.lt; omega) (fun b hb => by omega)) (And.intro b4 (And.intro hW1 (And.intro b1 b3)))))
    clear hP hR b1 b2 b3 b4 hW1 hK1 a1 a2 a3 a4 n1 n2 D1 hR1 c0 c1 c4
    have c1 := hA1.cell 1 rfl
    have c4 := hA1.cell 4 rfl
    clear hA1
    dsimp only
    go_wp2_with (fail)
    (with_reducible refine (M2.out _ HD1.out.2).mono ?_)
    rintro e w2 ⟨rfl, ⟨k', hk', hW2⟩, hK2⟩
    rw [← Hv.out, ← Hb.out]
    have D2 : Dual B w0 w2 p q sp g (rlR sp g r la ti bp L) (mnT la ti) (mnL sp la ti L) (rlR sp g r la ti bp L) (mnT la ti) (mnL sp la ti L) := Dual.refd HK1.out.2.2.2.1 HD1.out.2 HK1.out.2.2.2.2.1 HK1.out.1 HK1.out.2.2.2.2.2 (HK1.out.2.2.1.trans HK1.out.2.1) hW2 hK2
    have HD2 := hide D2
    clear D2 hW2 hK2 hk' c1 c4
    have hvv : (v == v) = true := by simp
    have hbb : (bb == bb) = true := by simp
    dsimp only
    go_wp2
    go_ret
    exact ⟨rfl, by rw [HE.out.1, HE.out.2.1, HE.out.2.2]; exact HD2.out, by rw [HE.out.1, HE.out.2.1, HE.out.2.2]; exact HO.out.mean.ref (HO.out.roll (by have := Hn.out; omega))⟩
  have e2 : (ka == 2) = false := by simpa using k3
  have HE : Hid (stR sp g r la ka ti pr bp L = rsR g r pr ∧ stA la ka ti pr qt = la ∧ stL sp g la ka ti pr qt L = rsL g pr L) := hide ⟨(if_neg k0).trans ((if_neg k1).trans (if_neg k3)), (if_neg k0).trans ((if_neg k1).trans (if_neg k3)), (if_neg k0).trans ((if_neg k1).trans (if_neg k3))⟩
  clear k0 k1 k3
  go_enter Try.func94, Try.ntmps94
  go_wp2
  have hC : ActC B w0 p q w.heap.size sp g ka ti pr qt bp r la (rsR g r pr) la L (rsL g pr L) 3 7 (fun _ => false) (w.alloc (.cells #[.int .i64 ka, .int .i64 ti, .int .i64 pr, .int .i64 qt, .int .i64 bp] 98)) := ⟨HA.out, _, _, _, _, _, _, HD.out, fun _ => ⟨rfl, rfl, rfl⟩, (fun h => by cases h), fun _ => ⟨rfl, rfl, rfl⟩, (fun h => by cases h)⟩
  clear c0
  refine wp_region_drawn3 (fun gg w' => ActC B w0 p q w.heap.size sp g ka ti pr qt bp r la (rsR g r pr) la L (rsL g pr L) 3 7 gg w') mixed (by kernel_rfl) hC.drew ?_
  clear hC
  refine lex3_val (v := .pointer (some ⟨p, 0, none⟩)) rfl (fun gg w' hc => hc.mark (by decide) (by decide)) (fun gg w' hg hc => exec_move _ rfl rfl) ?_
  refine lex3_val (v := .pointer (some ⟨w.heap.size, 2, none⟩)) rfl (fun gg w' hc => hc.mark (by decide) (by decide)) (fun gg w' hg hc => by clear hc hg; go_simp) ?_
  refine lex3_val (v := .int .i64 pr) rfl (fun gg w' hc => hc.mark (by decide) (by decide)) (fun gg w' hg hc => by have c := hc.A.cell 2 rfl; clear hc hg; go_simp) ?_
  simp only [Act.put, List.setIfInBounds_toArray, List.set_cons_zero, List.set_cons_succ]
  refine lex3_call (f := 98) (args := #[.pointer (some ⟨p, 0, none⟩), .int .i64 pr]) (v := .int .i64 (rsF g pr)) rfl (fun w' => exec_call (by kernel_rfl) rfl rfl) (fun gg w' hg hc => ?_) ?_
  · obtain ⟨hA, r1, l1, L1, r2, l2, L2, ⟨k, k2, hP, hR, b1, b2, b3, b4⟩, e1, e2, e3, e4⟩ := hc
    obtain ⟨rfl, rfl, rfl⟩ := e1 hg.2.2
    refine (reset_any p k sp g _ _ pr _ w' hP (by have := HO.out.G; unfold okI; omega) HP.out).mono ?_
    rintro e w'' ⟨rfl, ⟨k', hk', hW⟩, hK⟩
    obtain ⟨n1, n2⟩ := hA.apartP hP
    exact ⟨rfl, hA.keep hK n1, _, _, _, _, _, _, Dual.prog hP hR b1 b2 b3 b4 (by omega) hW (hK.mono (fun b hb => .inl hb)), (fun h => by simp [mark] at h), fun _ => ⟨rfl, rfl, rfl⟩, e3, e4⟩
  simp only [Act.put, List.setIfInBounds_toArray, List.set_cons_zero, List.set_cons_succ]
  refine lex3_val (v := .pointer (some ⟨q, 0, none⟩)) rfl (fun gg w' hc => hc.mark (by decide) (by decide)) (fun gg w' hg hc => exec_move _ rfl rfl) ?_
  refine lex3_val (v := .pointer (some ⟨w.heap.size, 2, none⟩)) rfl (fun gg w' hc => hc.mark (by decide) (by decide)) (fun gg w' hg hc => by clear hc hg; go_simp) ?_
  refine lex3_val (v := .int .i64 pr) rfl (fun gg w' hc => hc.mark (by decide) (by decide)) (fun gg w' hg hc => by have c := hc.A.cell 2 rfl; clear hc hg; go_simp) ?_
  simp only [Act.put, List.setIfInBounds_toArray, List.set_cons_zero, List.set_cons_succ]
  refine lex3_call (f := 133) (args := #[.pointer (some ⟨q, 0, none⟩), .int .i64 pr]) (v := .int .i64 (rsF g pr)) rfl (fun w' => exec_call (by kernel_rfl) rfl rfl) (fun gg w' hg hc => ?_) ?_
  · obtain ⟨hA, r1, l1, L1, r2, l2, L2, ⟨k, k2, hP, hR, b1, b2, b3, b4⟩, e1, e2, e3, e4⟩ := hc
    obtain ⟨rfl, rfl, rfl⟩ := e3 hg.2.2
    refine (refreset_any q k2 sp g _ _ pr _ w' hR (by have := HO.out.G; unfold okI; omega) HP.out).mono ?_
    rintro e w'' ⟨rfl, ⟨k', hk', hW⟩, hK⟩
    have n1 := hA.apartR hR
    exact ⟨rfl, hA.keep hK n1, _, _, _, _, _, _, Dual.refd hP hR b1 b2 b3 b4 hW hK, e1, e2, (fun h => by simp [mark] at h), fun _ => ⟨rfl, rfl, rfl⟩⟩
  simp only [Act.put, List.setIfInBounds_toArray, List.set_cons_zero, List.set_cons_succ]
  refine lex3_val (v := .bool true) rfl (fun gg w' hc => hc.mark (by decide) (by decide)) (fun gg w' hg hc => by clear hc hg; go_simp) ?_
  refine lex3_val (v := .bool true) rfl (fun gg w' hc => hc.mark (by decide) (by decide)) (fun gg w' hg hc => exec_assign _ rfl rfl) ?_
  simp only [Act.put, List.setIfInBounds_toArray, List.set_cons_zero, List.set_cons_succ]
  refine lex3_nil ?_
  rintro w1 ⟨-, r1, l1, L1, r2, l2, L2, hDD, -, e2, -, e4⟩
  obtain ⟨rfl, rfl, rfl⟩ := e2 rfl
  obtain ⟨rfl, rfl, rfl⟩ := e4 rfl
  have HDD := hide hDD
  clear e2 e4 hDD
  go_wp2
  go_ret
  exact ⟨rfl, by rw [HE.out.1, HE.out.2.1, HE.out.2.2]; exact HDD.out, by rw [HE.out.1, HE.out.2.1, HE.out.2.2]; exact HO.out.reset⟩
end Go.Proofs.Ytadilccdipcmnaa
