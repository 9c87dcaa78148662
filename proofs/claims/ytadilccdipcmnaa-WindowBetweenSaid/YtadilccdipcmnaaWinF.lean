/- The program's window: Mean. Arguments: any window of at most 300 trades. -/
import Derived.Test.YtadilccdipcmnaaWinE
namespace Go.Proofs.Ytadilccdipcmnaa
open Go Go.RowKit
attribute [local go_sem] field_two0 field_two1

theorem PBlk.segSet {w : World} {p k n : Nat} {a b c d sl sl' x y z : Value} {xs : List Value} (h : PBlk w p a b c d sl' x y z) (hs : Seg w 138 4 sl k n xs) (i : Nat) (v : Value) : Seg (w.setCell ⟨p, i, none⟩ v) 138 4 sl k n xs := by
  by_cases hv : sl = .slice none 0 0
  · subst hv
    obtain ⟨h1, h2 | ⟨_, _, _, h3, _⟩⟩ := hs
    · exact ⟨h1, Or.inl h2⟩
    · cases h3
  · exact hs.keep ((Keeps.refl (fun b => b = p) w).setCell ⟨p, i, none⟩ v (.inl rfl)) (PBlk.apart h hs hv)
def meanV (g : Int) (L : List Trd) : Int := if L.isEmpty then 0 else max (downF (wSum L / qSum L) g) g
/-- A window, and a pair of numbers of which the place is not known ahead. -/
structure MeanC (w0 : World) (p k N n : Nat) (A B C D sl X Y Z u v : Value) (xs : List Value) (g : Nat → Bool) (m : Value) (w : World) : Prop where
  P : PBlk w p A B C D sl X Y Z
  S : Seg w 138 4 sl k n xs
  K : Keeps (fun b => b = p) w0 w
  H : N ≤ w.heap.size
  A : g 14 = true → ∃ b, m = .pointer (some ⟨b, 0, none⟩) ∧ N ≤ b ∧ b ≠ p ∧ b ≠ k ∧ ∃ x y, Two w b x y ∧ (g 15 = true → x = u ∧ y = v)
section
variable {w0 w w' : World} {p k N n : Nat} {A B C D sl X Y Z u v m : Value} {xs : List Value} {g : Nat → Bool}
theorem MeanC.drew (h : MeanC w0 p k N n A B C D sl X Y Z u v xs g m w) : MeanC w0 p k N n A B C D sl X Y Z u v xs g m w.drew := ⟨h.P, h.S, h.K.drew, h.H, h.A⟩
theorem MeanC.below (h : MeanC w0 p k N n A B C D sl X Y Z u v xs g m w) (hb : Below w.heap.size w w') : MeanC w0 p k N n A B C D sl X Y Z u v xs g m w' := by
  refine ⟨h.P.below hb h.P.lt, h.S.keep (Keeps.of_below (S := fun _ => False) hb) (fun h => h), h.K.trans (Keeps.of_below hb), Nat.le_trans h.H hb.size, fun hg => ?_⟩
  obtain ⟨b, h1, h2, h3, h4, x, y, h5, h6⟩ := h.A hg
  exact ⟨b, h1, h2, h3, h4, x, y, h5.below hb h5.lt, h6⟩
theorem MeanC.mark (h : MeanC w0 p k N n A B C D sl X Y Z u v xs g m w) {j : Nat} (h1 : 14 ≠ j) (h2 : 15 ≠ j) : MeanC w0 p k N n A B C D sl X Y Z u v xs (mark g j) m w := by
  have e1 : Ytadilccdipcmnaa.mark g j 14 = g 14 := by simp [Ytadilccdipcmnaa.mark, h1]
  have e2 : Ytadilccdipcmnaa.mark g j 15 = g 15 := by simp [Ytadilccdipcmnaa.mark, h2]
  exact ⟨h.P, h.S, h.K, h.H, by rw [e1, e2]; exact h.A⟩
end
theorem mean_bds {L : List Trd} (hL : ∀ t ∈ L, okT t) (hl : L.length ≤ 300) (hn : L ≠ []) :
    0 < qSum L ∧ qSum L ≤ 1288490188800 ∧ 0 ≤ wSum L ∧ wSum L < M128 ∧ 0 ≤ wSum L / qSum L ∧ wSum L / qSum L ≤ 1099511627776 ∧ 1 ≤ wSum L / qSum L := by
  have h := sums_bd hL
  have h1 : 0 < L.length := List.length_pos_iff.2 hn
  have hq : 0 < qSum L := by omega
  have h2 : wSum L / qSum L ≤ 1099511627776 := Int.ediv_le_of_le_mul hq (by omega)
  have h3 : 1 ≤ wSum L / qSum L := by rw [Int.le_ediv_iff_mul_le hq]; omega
  refine ⟨hq, by omega, by omega, by rw [M128_eq]; omega, by omega, h2, h3⟩
theorem dropW_ok {c : Int} {L : List Trd} (hL : ∀ t ∈ L, okT t) : (∀ t ∈ dropW c L, okT t) ∧ (dropW c L).length ≤ L.length := by
  induction L with
  | nil => simp [dropW]
  | cons t l ih =>
    obtain ⟨h1, h2⟩ := ih (fun x hx => hL x (by simp [hx]))
    unfold dropW
    split
    · exact ⟨h1, by simp only [List.length_cons]; omega⟩
    · exact ⟨hL, Nat.le_refl _⟩
set_option maxRecDepth 100000 in
set_option maxHeartbeats 4000000 in
theorem mean_ok (p k : Nat) (sp g r la tick : Int) (L : List Trd) (w : World) (h : PWin w p k sp g r la L) (hL : ∀ t ∈ L, okT t) (hl : L.length ≤ 300) (hs : 1 ≤ sp ∧ sp ≤ 1099511627776) (hg : 1 ≤ g ∧ g ≤ 1099511627776) (hc : comesF la tick = true) :
    Calls Try.prog 90 #[.pointer (some ⟨p, 0, none⟩), .int .i64 tick] w fun e w' => e = .returned (.tuple #[.int .i64 (meanV g (dropW (tick - sp) L)), .bool (!(dropW (tick - sp) L).isEmpty)]) ∧ PWin w' p k sp g r tick (dropW (tick - sp) L) ∧ Keeps (fun b => b = p) w w' := by
  obtain ⟨hM, hMl⟩ := dropW_ok (c := tick - sp) hL
  have ht := of_decide_eq_true hc
  have HC := hide hc
  have HL := hide hL
  have Hl := hide hl
  have HS := hide hs
  have HM := hide hM
  have HMl := hide (Nat.le_trans hMl hl)
  have HT := hide ht.2
  obtain ⟨sl0, hP, hSg, hk⟩ := h
  have c3 := hP.cell 3 rfl
  have f3 := hP.free 3
  have hW1 : Hid (PWin (w.setCell ⟨p, 3, none⟩ (.int .i64 tick)) p k sp g r tick L) := hide ⟨sl0, hP.set3 _, hP.segSet hSg 3 _, hk⟩
  clear hP hSg hk hL hl hM hMl hs ht hc
  obtain ⟨M, hMe⟩ : ∃ M, M = dropW (tick - sp) L := ⟨_, rfl⟩
  rw [← hMe] at HM HMl ⊢
  have HMe := hide hMe
  clear hMe
  go_enter Try.func90, Try.ntmps90
  go_wp2_with (fail)
  (with_reducible refine (comes_any p la tick _ c3).mono ?_)
  rintro e w ⟨rfl, rfl⟩
  rw [HC.out]
  dsimp only
  go_wp2_with (fail)
  (with_reducible refine (leave_any p k sp g r tick tick L _ hW1.out HL.out Hl.out HT.out HS.out).mono ?_)
  rintro e w1 ⟨rfl, hW2, hK2⟩
  rw [← HMe.out] at hW2
  obtain ⟨sl, hP, hSg, hk⟩ := hW2
  have HP := hide hP
  have HSg := hide hSg
  have HK := hide hk
  have HK2 : Hid (Keeps (fun b => b = p) w w1) := hide (((Keeps.refl (fun b => b = p) w).setCell ⟨p, 3, none⟩ (.int .i64 tick) (.inl rfl)).trans hK2)
  obtain ⟨ad, cap, rfl⟩ := hSg.len
  have c4 := hP.cell 4 rfl
  clear hP hSg hk hK2 c3 f3 hW1 HL Hl HMe
  dsimp only
  by_cases hn : M = []
  · subst hn
    go_wp2
    go_ret2
    exact ⟨rfl, ⟨_, HP.out, HSg.out, HK.out⟩, HK2.out⟩
  obtain ⟨b1, b2, b3, b4, b5, b6, b7⟩ := mean_bds HM.out HMl.out hn
  have hlen : M.length ≠ 0 := fun h => hn (List.eq_nil_of_length_eq_zero h)
  have hlen2 : ((M.length : Int) == 0) = false := by simpa using hlen
  have HV : Hid (meanV g M = max (downF (wSum M / qSum M) g) g ∧ M.isEmpty = false) := hide (by
    have : M.isEmpty = false := by cases M with | nil => exact absurd rfl hn | cons => rfl
    unfold meanV
    rw [this]
    exact ⟨rfl, rfl⟩)
  clear hn
  obtain ⟨W, hW⟩ : ∃ x, x = wSum M := ⟨_, rfl⟩
  obtain ⟨Q, hQ⟩ : ∃ x, x = qSum M := ⟨_, rfl⟩
  rw [← hW, ← hQ] at HP HV b5 b6 b7
  rw [← hQ] at b1 b2
  rw [← hW] at b3 b4
  have HW := hide hW
  have HQ := hide hQ
  clear hW hQ
  obtain ⟨V, hV⟩ : ∃ x, x = W / Q := ⟨_, rfl⟩
  rw [← hV] at HV b5 b6 b7
  have HB : Hid (0 ≤ W / M64 ∧ 0 ≤ W % M64 ∧ W / M64 < M64 ∧ W % M64 < M64 ∧ Q < M64 ∧ W / Q / M64 = 0 ∧ W / Q % M64 = V) := hide (by
    rw [← hV]
    rw [M128_eq] at b4
    rw [M64_eq]
    omega)
  clear hV b3 b4
  obtain ⟨sl, hsl⟩ : ∃ sl, sl = Value.slice ad M.length cap := ⟨_, rfl⟩
  rw [← hsl] at HP HSg HK
  have Hsl := hide hsl
  go_wp2
  clear c4 hsl
  have hC : MeanC w p k w1.heap.size M.length (.int .i64 sp) (.int .i64 g) (.int .i64 r) (.int .i64 tick) sl (.int .u64 (W / M64)) (.int .u64 (W % M64)) (.int .i64 Q) (.int .u64 0) (.int .u64 V) (pCells M) (fun _ => false) (.pointer (some ⟨w1.heap.size, 0, none⟩)) w1 :=
    ⟨HP.out, HSg.out, HK2.out, Nat.le_refl _, fun h => by cases h⟩
  have lk : k < w1.heap.size := (PWin.lt ⟨sl, by rw [← HW.out, ← HQ.out]; exact HP.out, HSg.out, HK.out⟩ : p < w1.heap.size ∧ k < w1.heap.size).2
  have lp := HP.out.lt
  refine wp_region_loose4 (fun g' m w' => MeanC w p k w1.heap.size M.length (.int .i64 sp) (.int .i64 g) (.int .i64 r) (.int .i64 tick) sl (.int .u64 (W / M64)) (.int .u64 (W % M64)) (.int .i64 Q) (.int .u64 0) (.int .u64 V) (pCells M) g' m w') (fun v => ∃ b, v = .pointer (some ⟨b, 0, none⟩) ∧ w1.heap.size ≤ b) 14 (fun i => ([.pointer (some ⟨p, 0, none⟩), .pointer (some ⟨p, 0, none⟩), .pointer (some ⟨p, 5, none⟩), .agg #[.int .u64 (W / M64), .int .u64 (W % M64)], .pointer (some ⟨p, 0, none⟩), .pointer (some ⟨p, 0, none⟩), .pointer (some ⟨p, 7, none⟩), .int .i64 Q, .int .u64 Q, .tuple #[.agg #[.int .u64 0, .int .u64 V], .int .u64 (W % Q), .bool true], .tuple #[.agg #[.int .u64 0, .int .u64 V], .int .u64 (W % Q), .bool true], .agg #[.int .u64 0, .int .u64 V], .int .u64 (W % Q), .bool true, undef, undef, .int .u64 (W % Q), .bool true] : List Value).getD i undef) (.pointer (some ⟨w1.heap.size, 0, none⟩)) ⟨_, rfl, Nat.le_refl _⟩ mixed (by kernel_rfl) hC.drew ?_
  clear hC
  refine lex4_val (v := .pointer (some ⟨p, 0, none⟩)) (by decide) rfl rfl (fun g m w' hc => hc.mark (by decide) (by decide)) (fun g m w' hn hm hc => exec_move _ rfl rfl) ?_
  refine lex4_val (v := .pointer (some ⟨p, 0, none⟩)) (by decide) rfl rfl (fun g m w' hc => hc.mark (by decide) (by decide)) (fun g m w' hn hm hc => by clear hc hm hn; go_simp) ?_
  simp only [Act.put, List.setIfInBounds_toArray, List.set_cons_zero, List.set_cons_succ]
  refine lex4_val (v := .pointer (some ⟨p, 5, none⟩)) (by decide) rfl rfl (fun g m w' hc => hc.mark (by decide) (by decide)) (fun g m w' hn hm hc => by clear hc hm hn; go_simp) ?_
  refine lex4_val (v := .agg #[.int .u64 (W / M64), .int .u64 (W % M64)]) (by decide) rfl rfl (fun g m w' hc => hc.mark (by decide) (by decide)) (fun g m w' hn hm hc => by have c5 := hc.P.cell 5 rfl; have c6 := hc.P.cell 6 rfl; clear hc hm hn; go_simp) ?_
  simp only [Act.put, List.setIfInBounds_toArray, List.set_cons_zero, List.set_cons_succ]
  refine lex4_val (v := .pointer (some ⟨p, 0, none⟩)) (by decide) rfl rfl (fun g m w' hc => hc.mark (by decide) (by decide)) (fun g m w' hn hm hc => exec_move _ rfl rfl) ?_
  refine lex4_val (v := .pointer (some ⟨p, 0, none⟩)) (by decide) rfl rfl (fun g m w' hc => hc.mark (by decide) (by decide)) (fun g m w' hn hm hc => by clear hc hm hn; go_simp) ?_
  simp only [Act.put, List.setIfInBounds_toArray, List.set_cons_zero, List.set_cons_succ]
  refine lex4_val (v := .pointer (some ⟨p, 7, none⟩)) (by decide) rfl rfl (fun g m w' hc => hc.mark (by decide) (by decide)) (fun g m w' hn hm hc => by clear hc hm hn; go_simp) ?_
  refine lex4_val (v := .int .i64 Q) (by decide) rfl rfl (fun g m w' hc => hc.mark (by decide) (by decide)) (fun g m w' hn hm hc => by have c7 := hc.P.cell 7 rfl; clear hc hm hn; go_simp) ?_
  simp only [Act.put, List.setIfInBounds_toArray, List.set_cons_zero, List.set_cons_succ]
  refine lex4_val (v := .int .u64 Q) (by decide) rfl rfl (fun g m w' hc => hc.mark (by decide) (by decide)) (fun g m w' hn hm hc => by clear hc hm hn; go_simp; rw [IntKind.wrap_u64]; omega) ?_
  refine lex4_call (f := 34) (args := #[.agg #[.int .u64 (W / M64), .int .u64 (W % M64)], .int .u64 Q]) (v := .tuple #[.agg #[.int .u64 0, .int .u64 V], .int .u64 (W % Q), .bool true]) (by decide) rfl rfl (fun w' => exec_call (by kernel_rfl) rfl rfl) (fun g m w' hn hm hc => ?_) ?_
  · refine (wdiv_any (W / M64) (W % M64) Q w' HB.out.1 HB.out.2.1 HB.out.2.2.1 HB.out.2.2.2.1 b1 HB.out.2.2.2.2.1).mono ?_
    rintro e w'' ⟨rfl, hb⟩
    exact ⟨by rw [wv_split, HB.out.2.2.2.2.2.1, HB.out.2.2.2.2.2.2], (hc.below hb).mark (by decide) (by decide)⟩
  simp only [Act.put, List.setIfInBounds_toArray, List.set_cons_zero, List.set_cons_succ]
  refine lex4_val (v := .tuple #[.agg #[.int .u64 0, .int .u64 V], .int .u64 (W % Q), .bool true]) (by decide) rfl rfl (fun g m w' hc => hc.mark (by decide) (by decide)) (fun g m w' hn hm hc => exec_move _ rfl rfl) ?_
  refine lex4_val (v := .agg #[.int .u64 0, .int .u64 V]) (by decide) rfl rfl (fun g m w' hc => hc.mark (by decide) (by decide)) (fun g m w' hn hm hc => exec_extract _ _ rfl rfl rfl) ?_
  simp only [Act.put, List.setIfInBounds_toArray, List.set_cons_zero, List.set_cons_succ]
  refine lex4_val (v := .int .u64 (W % Q)) (by decide) rfl rfl (fun g m w' hc => hc.mark (by decide) (by decide)) (fun g m w' hn hm hc => exec_extract _ _ rfl rfl rfl) ?_
  refine lex4_val (v := .bool true) (by decide) rfl rfl (fun g m w' hc => hc.mark (by decide) (by decide)) (fun g m w' hn hm hc => exec_extract _ _ rfl rfl rfl) ?_
  simp only [Act.put, List.setIfInBounds_toArray, List.set_cons_zero, List.set_cons_succ]
  refine lex4_new rfl rfl (fun g m w' hn hc => ?_) ?_
  · have h15 : g 15 = false := hn.1 15 (by kernel_rfl)
    refine ⟨.pointer (some ⟨w'.heap.size, 0, none⟩), w'.alloc (.cells #[.int .u64 0, .int .u64 0] 25), by clear hn hc h15; go_simp, ⟨_, rfl, hc.H⟩, ?_⟩
    have hH := hc.H
    exact ⟨hc.P.alloc _, hc.S.keep (S := fun _ => False) ((Keeps.refl _ _).alloc _) (fun h => h), hc.K.alloc _, by simp; omega, fun _ => ⟨_, rfl, hH, by omega, by omega, _, _, Two.new _ _ _, fun h => by rw [show mark g _ 15 = g 15 from rfl, h15] at h; cases h⟩⟩
  rintro v ⟨b, rfl, hb⟩
  simp only [Act.put, List.setIfInBounds_toArray, List.set_cons_zero, List.set_cons_succ]
  refine lex4_put (by decide) rfl rfl (fun g m w' hn hm hc => ?_) ?_
  · obtain ⟨b', hb', h2, h3, h4, x, y, hT, hf⟩ := hc.A (hn.2.1 14 (by kernel_rfl))
    obtain rfl := hm.2 _ rfl
    obtain rfl : b = b' := by simpa using hb'
    have hx : Keeps (fun c => c = b) w' (w'.setRow b #[.int .u64 0, .int .u64 V]) := (Keeps.refl _ _).setRow _ _ (.inl rfl)
    have hK := hc.K
    have lb := hK.size
    refine ⟨_, exec_store_two _ _ rfl rfl rfl rfl rfl hT, hc.P.setRow _ _ (fun e => h3 e.symm), hc.S.keep hx (fun e => h4 e.symm), hc.K.setRow _ _ (.inr (by have := HK2.out.size; omega)), by simpa using hc.H, fun _ => ⟨b, rfl, h2, h3, h4, _, _, hT.setRow, fun _ => ⟨rfl, rfl⟩⟩⟩
  simp only [Act.put]
  refine lex4_val (v := .int .u64 (W % Q)) (by decide) rfl rfl (fun g m w' hc => hc.mark (by decide) (by decide)) (fun g m w' hn hm hc => exec_assign _ rfl rfl) ?_
  simp only [Act.put, List.setIfInBounds_toArray, List.set_cons_zero, List.set_cons_succ]
  refine lex4_val (v := .bool true) (by decide) rfl rfl (fun g m w' hc => hc.mark (by decide) (by decide)) (fun g m w' hn hm hc => exec_assign _ rfl rfl) ?_
  simp only [Act.put, List.setIfInBounds_toArray, List.set_cons_zero, List.set_cons_succ]
  refine lex4_nil ?_
  rintro m w2 hm hC
  obtain ⟨b', hb', h2, h3, h4, x, y, hT, hf⟩ := hC.A rfl
  obtain rfl := hm.2 _ rfl
  obtain rfl : b = b' := by simpa using hb'
  obtain ⟨rfl, rfl⟩ := hf rfl
  have hC2 : PBlk w2 p (.int .i64 sp) (.int .i64 g) (.int .i64 r) (.int .i64 tick) sl (.int .u64 (W / M64)) (.int .u64 (W % M64)) (.int .i64 Q) ∧ Two w2 b (.int .u64 0) (.int .u64 V) ∧ Seg w2 138 4 sl k M.length (pCells M) ∧ Keeps (fun b => b = p) w w2 := ⟨hC.P, hT, hC.S, hC.K⟩
  clear hm hC hb' h2 h3 h4 hf hT
  go_wp2
  refine wp_region_drawn3 (fun _ w' => PBlk w' p (.int .i64 sp) (.int .i64 g) (.int .i64 r) (.int .i64 tick) sl (.int .u64 (W / M64)) (.int .u64 (W % M64)) (.int .i64 Q) ∧ Two w' b (.int .u64 0) (.int .u64 V) ∧ Seg w' 138 4 sl k M.length (pCells M) ∧ Keeps (fun b => b = p) w w') mixed (by kernel_rfl) ⟨hC2.1, hC2.2.1, hC2.2.2.1, hC2.2.2.2.drew⟩ ?_
  clear hC2
  refine lex3_val (v := .pointer (some ⟨b, 1, none⟩)) rfl (fun g w' hc => hc) (fun g w' hg hc => by clear hc hg; go_simp) ?_
  refine lex3_val (v := .int .u64 V) rfl (fun g w' hc => hc) (fun g w' hg hc => by have c1 := hc.2.1.c1; clear hc hg; go_simp) ?_
  simp only [Act.put, List.setIfInBounds_toArray, List.set_cons_zero, List.set_cons_succ]
  refine lex3_val (v := .int .i64 V) rfl (fun g w' hc => hc) (fun g w' hg hc => by clear hc hg; go_simp; rw [wrap_i64_id (by unfold okI; omega)]) ?_
  refine lex3_val (v := .pointer (some ⟨p, 0, none⟩)) rfl (fun g w' hc => hc) (fun g w' hg hc => exec_move _ rfl rfl) ?_
  simp only [Act.put, List.setIfInBounds_toArray, List.set_cons_zero, List.set_cons_succ]
  refine lex3_val (v := .pointer (some ⟨p, 0, none⟩)) rfl (fun g w' hc => hc) (fun g w' hg hc => by clear hc hg; go_simp) ?_
  refine lex3_val (v := .pointer (some ⟨p, 1, none⟩)) rfl (fun g w' hc => hc) (fun g w' hg hc => by clear hc hg; go_simp) ?_
  simp only [Act.put, List.setIfInBounds_toArray, List.set_cons_zero, List.set_cons_succ]
  refine lex3_val (v := .int .i64 g) rfl (fun g w' hc => hc) (fun g w' hg hc => by have c1 := hc.1.cell 1 rfl; clear hc hg; go_simp) ?_
  refine lex3_call (f := 52) (args := #[.int .i64 V, .int .i64 g]) (v := .int .i64 (downF V g)) rfl (fun w' => exec_call (by kernel_rfl) rfl rfl) (fun _ w' hg' hc => ?_) ?_
  · refine (down_any V g w' (by unfold okI; omega) (by unfold okI; omega)).mono ?_
    rintro e w'' ⟨rfl, rfl⟩
    exact ⟨rfl, hc⟩
  simp only [Act.put, List.setIfInBounds_toArray, List.set_cons_zero, List.set_cons_succ]
  refine lex3_val (v := .pointer (some ⟨p, 0, none⟩)) rfl (fun g w' hc => hc) (fun g w' hg hc => exec_move _ rfl rfl) ?_
  refine lex3_val (v := .pointer (some ⟨p, 0, none⟩)) rfl (fun g w' hc => hc) (fun g w' hg hc => by clear hc hg; go_simp) ?_
  simp only [Act.put, List.setIfInBounds_toArray, List.set_cons_zero, List.set_cons_succ]
  refine lex3_val (v := .pointer (some ⟨p, 1, none⟩)) rfl (fun g w' hc => hc) (fun g w' hg hc => by clear hc hg; go_simp) ?_
  refine lex3_val (v := .int .i64 g) rfl (fun g w' hc => hc) (fun g w' hg hc => by have c1 := hc.1.cell 1 rfl; clear hc hg; go_simp) ?_
  simp only [Act.put, List.setIfInBounds_toArray, List.set_cons_zero, List.set_cons_succ]
  refine lex3_val (v := .int .i64 (max (downF V g) g)) rfl (fun g w' hc => hc) (fun g w' hg hc => by clear hc hg; go_simp) ?_
  refine lex3_val (v := .int .i64 (max (downF V g) g)) rfl (fun g w' hc => hc) (fun g w' hg hc => exec_assign _ rfl rfl) ?_
  simp only [Act.put, List.setIfInBounds_toArray, List.set_cons_zero, List.set_cons_succ]
  refine lex3_val (v := .bool true) rfl (fun g w' hc => hc) (fun g w' hg hc => exec_assign _ rfl rfl) ?_
  simp only [Act.put, List.setIfInBounds_toArray, List.set_cons_zero, List.set_cons_succ]
  refine lex3_nil ?_
  rintro w3 ⟨hP, -, hSg, hK⟩
  have HR : Hid (PWin w3 p k sp g r tick M ∧ Keeps (fun b => b = p) w w3) := hide ⟨⟨sl, by rw [← HW.out, ← HQ.out]; exact hP, hSg, HK.out⟩, hK⟩
  clear hP hSg hK
  go_wp2
  go_ret2
  refine ⟨?_, HR.out⟩
  rw [HV.out.1, HV.out.2]
  rfl
def mnV (sp g la tick : Int) (L : List Trd) : Int := if comesF la tick then meanV g (dropW (tick - sp) L) else 0
def mnB (sp la tick : Int) (L : List Trd) : Bool := comesF la tick && !(dropW (tick - sp) L).isEmpty
def mnT (la tick : Int) : Int := if comesF la tick then tick else la
def mnL (sp la tick : Int) (L : List Trd) : List Trd := if comesF la tick then dropW (tick - sp) L else L
set_option maxRecDepth 100000 in
set_option maxHeartbeats 4000000 in
theorem mean_any (p k : Nat) (sp g r la tick : Int) (L : List Trd) (w : World) (h : PWin w p k sp g r la L) (hL : ∀ t ∈ L, okT t) (hl : L.length ≤ 300) (hs : 1 ≤ sp ∧ sp ≤ 1099511627776) (hg : 1 ≤ g ∧ g ≤ 1099511627776) :
    Calls Try.prog 90 #[.pointer (some ⟨p, 0, none⟩), .int .i64 tick] w fun e w' => e = .returned (.tuple #[.int .i64 (mnV sp g la tick L), .bool (mnB sp la tick L)]) ∧ PWin w' p k sp g r (mnT la tick) (mnL sp la tick L) ∧ Keeps (fun b => b = p) w w' := by
  cases hc : comesF la tick
  · have e1 : mnV sp g la tick L = 0 := by unfold mnV; rw [hc]; rfl
    have e2 : mnB sp la tick L = false := by unfold mnB; rw [hc]; rfl
    have e3 : mnT la tick = la := by unfold mnT; rw [hc]; rfl
    have e4 : mnL sp la tick L = L := by unfold mnL; rw [hc]; rfl
    rw [e1, e2, e3, e4]
    have HC := hide hc
    have HH := hide h
    obtain ⟨sl, hP, -, -⟩ := h
    have c3 := hP.cell 3 rfl
    clear hP hc hL hl hs hg e1 e2 e3 e4
    go_enter Try.func90, Try.ntmps90
    go_wp2_with (fail)
    (with_reducible refine (comes_any p la tick _ c3).mono ?_)
    rintro e w ⟨rfl, rfl⟩
    rw [HC.out]
    dsimp only
    go_wp2
    go_ret2
    exact ⟨rfl, HH.out, Keeps.refl _ _⟩
  · have e1 : mnV sp g la tick L = meanV g (dropW (tick - sp) L) := by unfold mnV; rw [hc]; rfl
    have e2 : mnB sp la tick L = !(dropW (tick - sp) L).isEmpty := by unfold mnB; rw [hc]; rfl
    have e3 : mnT la tick = tick := by unfold mnT; rw [hc]; rfl
    have e4 : mnL sp la tick L = dropW (tick - sp) L := by unfold mnL; rw [hc]; rfl
    rw [e1, e2, e3, e4]
    exact mean_ok p k sp g r la tick L w h hL hl hs hg hc
end Go.Proofs.Ytadilccdipcmnaa
