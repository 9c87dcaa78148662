/- The program's window: Add. Arguments: any window of at most 200 trades. -/
import Derived.Test.YtadilccdipcmnaaWinC
namespace Go.Proofs.Ytadilccdipcmnaa
open Go Go.RowKit

section
variable {P : Program} {ops : Array Oper} {md : Region.Mode} {C : (Nat → Bool) → Value → World → Prop} {V : Value → Prop} {x : Nat} {val : Nat → Value}
/-- An operation that yields a known value and makes memory. -/
theorem lex4_mk {Q : Option Value → Array Bool → Act → Prop} {mo : Option Value} {k : Nat} {listed : Array Bool} {a : Act} {o : Oper} {l : List Oper} {v : Value} (hk : k ≠ x) (hv : val k = v) (hg : Region.wanted o (yielded ops a.tmps) = true) (hr : ∀ g m w, Now4 md ops g k → okay V mo m → C g m w → ∃ w', (execOp a.eval o).run P w = .ok (.value v) w' ∧ C (mark g k) m w')
    (h : Lex4 P md ops C V x val Q mo (k + 1) (listed.setIfInBounds k true) l (a.put o.dst v)) : Lex4 P md ops C V x val Q mo k listed (o :: l) a := by
  subst hv
  unfold Lex4 After4
  rw [if_neg hk]
  exact ⟨fun m hm g w hb hc => by obtain ⟨w', h1, h2⟩ := hr g m w hb hm hc; rw [if_pos hg, h1]; exact ⟨rfl, h2⟩, h⟩
end

/-- Block b is a variable of a trade. -/
def TBlk (w : World) (b : Nat) (x y z u : Value) : Prop := w.heap[b]? = some (.cells #[x, y, z, u] 138 (0, 0))
section
variable {S : Nat → Prop} {w w' : World} {b : Nat} {x y z u : Value}
theorem TBlk.lt (h : TBlk w b x y z u) : b < w.heap.size := lt_of_block h
theorem TBlk.keep (h : TBlk w b x y z u) (hk : Keeps S w w') (hn : ¬ S b) : TBlk w' b x y z u := hk.heap h hn
theorem TBlk.below {B : Nat} (h : TBlk w b x y z u) (hb : Below B w w') (hlt : b < B) : TBlk w' b x y z u := by
  unfold TBlk
  rw [hb.block b hlt]
  exact h
theorem TBlk.new' {x y z u : Value} {n : Nat} (h : w.heap.size = n) : TBlk (w.alloc (.cells #[x, y, z, u] 138)) n x y z u := by
  subst h
  exact heap_alloc_new w _
theorem TBlk.alloc (h : TBlk w b x y z u) (o : Obj) : TBlk (w.alloc o) b x y z u := by
  unfold TBlk
  rw [Below.heap_alloc w o b h.lt]
  exact h
theorem TBlk.setRow {x' y' z' u' : Value} (h : TBlk w b x y z u) : TBlk (w.setRow b #[x', y', z', u']) b x' y' z' u' := setRow_heap w b _ _ _ _ h
theorem TBlk.setRow_other {c : Nat} (h : TBlk w b x y z u) (cs : Array Value) (hn : b ≠ c) : TBlk (w.setRow c cs) b x y z u := by
  unfold TBlk
  rw [Go.setRow_other w c b cs hn]
  exact h
theorem TBlk.cell (h : TBlk w b x y z u) (i : Nat) {v : Value} (hi : (#[x, y, z, u] : Array Value)[i]? = some v) : w.cell? ⟨b, i, none⟩ = some v := by
  rw [cell_of_row w b i _ _ _ h]
  exact hi
end
theorem size138 : (Try.prog.info? 138).map (·.size) = some 4 := by kernel_rfl
theorem info138 : (Try.prog.info? 138).map (fun i => (i.zero, i.size, i.bytes)) = some (some (.agg #[.int .i64 0, .int .i64 0, .int .u64 0, .int .u64 0]), 4, 32) := by kernel_rfl
section
variable {ops : Array Oper} {rest : List Oper} {o : Oper} {a : Act} {w : World} {Q : Exit → Act → World → Prop} {p q r s p0 q0 r0 s0 : Value} {g : Nat}
theorem load_trd (hgd : o.guard = none) (x : Operand) (ho : o.op = .load 138 x) (hx : a.eval x = .pointer (some ⟨g, 0, none⟩)) (hg : TBlk w g p q r s)
    (h : wpList Try.prog ops Q rest (a.put o.dst (.agg #[p, q, r, s])) w) : wpList Try.prog ops Q (o :: rest) a w :=
  wpList_load_row hgd 138 x ho g hx 138 #[p, q, r, s] (0, 0) _ hg Try.underlying138 rfl size138 h
theorem store_trd (hgd : o.guard = none) (x y : Operand) (ho : o.op = .store 138 x y) (hx : a.eval x = .pointer (some ⟨g, 0, none⟩)) (hy : a.eval y = .agg #[p, q, r, s]) (h1 : (#[p, q, r, s] : Array Value).all (·.oneCell') = true) (hg : TBlk w g p0 q0 r0 s0)
    (h : wpList Try.prog ops Q rest (a.put o.dst undef) (w.setRow g #[p, q, r, s])) : wpList Try.prog ops Q (o :: rest) a w :=
  wpList_store_row hgd 138 x y ho g #[p, q, r, s] hx hy 138 #[p0, q0, r0, s0] hg size138 rfl h1 h
theorem exec_load_trd (x : Operand) (ho : o.op = .load 138 x) (hx : a.eval x = .pointer (some ⟨g, 0, none⟩)) (hg : TBlk w g p q r s) : (execOp a.eval o).run Try.prog w = .ok (.value (.agg #[p, q, r, s])) w := by
  simp [execOp, ho, hx, Instr.loadAt, Instr.sureAddr, run_loadVar_row w g 138 138 #[p, q, r, s] (0, 0) _ hg Try.underlying138 rfl size138, Result.andThen]
end
theorem PBlk.apart {w : World} {p k n : Nat} {a b c d sl x y z v : Value} {xs : List Value} (h : PBlk w p a b c d sl x y z) (hs : Seg w 138 4 v k n xs) (hv : v ≠ .slice none 0 0) : k ≠ p := by
  rintro rfl
  obtain ⟨_, ⟨h2, _⟩ | ⟨off, cap, cur, _, h4, _⟩⟩ := hs
  · exact hv h2
  · unfold PBlk at h
    rw [h] at h4
    simp at h4

theorem exec_append {P : Program} {w w' : World} {o : Oper} {a : Act} {v x v' : Value} (s y : Operand) (t : TypeId) (ho : o.op = .call { callee := .builtin .append, args := #[s, y], argTypes := #[t, t] }) (ht : o.type = t) (hs : a.eval s = v) (hx : a.eval y = x)
    (hr : (Builtin.append_ #[t, t] t #[v, x]).run P w = .ok v' w') : (execOp a.eval o).run P w = .ok (.value v') w' := by
  rw [← ht] at hr
  unfold execOp
  simp only [ho, resolve, invoke, builtin, Sem.run_bind, Sem.run_pure, Result.andThen_ok, List.map_toArray, List.map_cons, List.map_nil, hs, hx]
  rw [ht] at hr ⊢
  simp only [hr]
  rfl

/-- What Add's append keeps. -/
structure AddC (p k tb N n : Nat) (w0 : World) (A B C D X Y Z sl t0 t1 t2 t3 : Value) (xs : List Value) (g : Nat → Bool) (m : Value) (w : World) : Prop where
  P : ∃ v, PBlk w p A B C D v X Y Z ∧ (g 10 = false → v = sl) ∧ (g 10 = true → v = m)
  T : TBlk w tb t0 t1 t2 t3
  K : Keeps (fun b => b = p ∨ b = k) w0 w
  S : g 7 = false → Seg w 138 4 sl k n xs ∧ w.heap.size = (if g 6 then N + 1 else N) ∧ (g 6 = true → TBlk w N t0 t1 t2 t3)
  G : g 7 = true → ∃ k', Seg w 138 4 m k' (n + 1) (xs ++ [t0, t1, t2, t3]) ∧ m ≠ .slice none 0 0 ∧ (k' = k ∨ w0.heap.size ≤ k') ∧ k' ≠ p
section
variable {p k tb N n : Nat} {w0 w : World} {A B C D X Y Z sl t0 t1 t2 t3 m : Value} {xs : List Value} {g : Nat → Bool}
theorem AddC.drew (h : AddC p k tb N n w0 A B C D X Y Z sl t0 t1 t2 t3 xs g m w) : AddC p k tb N n w0 A B C D X Y Z sl t0 t1 t2 t3 xs g m w.drew :=
  ⟨h.P, h.T, h.K.drew, h.S, h.G⟩
end
theorem pCells_len (l : List Trd) : (pCells l).length = l.length * 4 := by
  induction l with
  | nil => rfl
  | cons t l ih => simp only [pCells, List.flatMap_cons, List.length_append, List.length_cons] at *; rw [ih]; simp [pCell]; omega
theorem pCells_append (l : List Trd) (t : Trd) : pCells (l ++ [t]) = pCells l ++ pCell t := by simp [pCells]
theorem add_bds {L : List Trd} {t : Trd} (hL : ∀ t ∈ L, okT t) (ht : okT t) (hl : L.length ≤ 200) :
    (0 ≤ wSum L ∧ wSum L < M128 ∧ 0 ≤ t.2.1 * t.2.2 ∧ t.2.1 * t.2.2 < M128 ∧ wSum L + t.2.1 * t.2.2 < M128) ∧ (0 ≤ wSum L / M64 ∧ wSum L / M64 < M64 ∧ 0 ≤ wSum L % M64 ∧ wSum L % M64 < M64) ∧ (0 ≤ t.2.1 * t.2.2 / M64 ∧ t.2.1 * t.2.2 / M64 < M64 ∧ 0 ≤ t.2.1 * t.2.2 % M64 ∧ t.2.1 * t.2.2 % M64 < M64) ∧ 0 ≤ qSum L ∧ qSum L ≤ 858993459200 := by
  have h1 := sums_bd hL
  have h2 := pq_bd ht
  rw [M64_eq, M128_eq]
  generalize t.2.1 * t.2.2 = x at *
  omega
set_option maxRecDepth 100000 in
set_option maxHeartbeats 4000000 in
theorem add_ok (p k : Nat) (sp g r la : Int) (L : List Trd) (tick price qty : Int) (w : World) (h : PWin w p k sp g r la L) (hL : ∀ t ∈ L, okT t) (hl : L.length ≤ 200) (hc : comesF la tick = true) (hp : 1 ≤ price ∧ price ≤ 1099511627776) (hq : 1 ≤ qty ∧ qty ≤ 4294967296) :
    Calls Try.prog 89 #[.pointer (some ⟨p, 0, none⟩), .int .i64 tick, .int .i64 price, .int .i64 qty] w fun e w' => e = .returned (.int .i64 0) ∧ ∃ k', (k' = k ∨ w.heap.size ≤ k') ∧ PWin w' p k' sp g r tick (L ++ [(tick, price, qty)]) ∧ Keeps (fun b => b = p ∨ b = k) w w' := by
  obtain ⟨sl, hP, hS, hk⟩ := h
  have hT : okT (tick, price, qty) := ⟨(of_decide_eq_true hc).2, hp, hq⟩
  have HB := hide (add_bds hL hT hl)
  obtain ⟨-, -, -, q0, q1⟩ := add_bds hL hT hl
  have HL := hide hl
  have HPR := hide (decide_eq_true hp)
  have HQF : Hid (qtyF qty = 0) := hide (by unfold qtyF; rw [if_neg (by omega)])
  have c3 := hP.cell 3 rfl
  have HC := hide hc
  have HP := hide hP
  have HS := hide hS
  have HK := hide hk
  have lp := hP.lt
  have lk := PWin.lt ⟨sl, hP, hS, hk⟩ |>.2
  obtain ⟨p1, p2⟩ := hp
  obtain ⟨y1, y2⟩ := hq
  clear hP hS hk hL hT hl hc
  obtain ⟨W, hW⟩ : ∃ W, W = wSum L := ⟨_, rfl⟩
  obtain ⟨Q, hQ⟩ : ∃ Q, Q = qSum L := ⟨_, rfl⟩
  rw [← hW, ← hQ] at HP HB
  rw [← hQ] at q0 q1
  have HW := hide hW
  have HQ := hide hQ
  clear hW hQ
  go_enter Try.func89, Try.ntmps89
  go_wp2_with (fail)
  (with_reducible refine (comes_any p la tick _ c3).mono ?_)
  rintro e w ⟨rfl, rfl⟩
  rw [HC.out]
  dsimp only
  go_wp2_with (fail)
  (with_reducible refine (priced_any price 1 _ (by unfold okI; omega) (by decide)).mono ?_)
  rintro e w ⟨rfl, rfl⟩
  rw [priced_one, HPR.out]
  dsimp only
  go_wp2_with (fail)
  (with_reducible refine (qty_any qty _).mono ?_)
  rintro e w1 ⟨rfl, hb⟩
  have P1 := HP.out.below hb lp
  have S1 := HS.out.keep (Keeps.of_below (S := fun _ => False) hb) (fun h => h)
  have K1 := Keeps.of_below (S := fun b => b = p ∨ b = k) hb
  clear hb c3
  rw [HQF.out]
  dsimp only
  have P1' := hide P1
  have S1' := hide S1
  have K1' := hide K1
  clear P1 S1 K1
  go_wp2_with (fail)
  (with_reducible refine (mul_any price qty _ (by omega) (by omega) (by rw [M64_eq]; omega) (by rw [M64_eq]; omega)).mono ?_)
  rintro e w2 ⟨rfl, hb⟩
  have P2 := P1'.out.below hb P1'.out.lt
  have S2 := S1'.out.keep (Keeps.of_below (S := fun _ => False) hb) (fun h => h)
  have K2 := K1'.out.trans (Keeps.of_below (S := fun b => b = p ∨ b = k) hb)
  clear hb P1' S1' K1'
  obtain ⟨hi, hhi⟩ : ∃ x, x = price * qty / M64 := ⟨_, rfl⟩
  obtain ⟨lo, hlo⟩ : ∃ x, x = price * qty % M64 := ⟨_, rfl⟩
  rw [← hhi, ← hlo]
  have HHI := hide hhi
  have HLO := hide hlo
  clear hhi hlo
  dsimp only
  have s2 := K2.size
  have P3 := P2.alloc (.cells #[.int .i64 tick, .int .i64 qty, .int .u64 hi, .int .u64 lo] 138)
  have c3 := P3.cell 3 rfl
  have f3 := P3.free 3
  have P2' := hide P2
  have S2' := hide S2
  have K2' := hide K2
  have P3' := hide P3
  clear P2 S2 K2 P3
  go_wp2
  have hC : AddC p k w2.heap.size (w2.heap.size + 1) L.length w (.int .i64 sp) (.int .i64 g) (.int .i64 r) (.int .i64 tick) (.int .u64 (W / M64)) (.int .u64 (W % M64)) (.int .i64 Q) sl (.int .i64 tick) (.int .i64 qty) (.int .u64 hi) (.int .u64 lo) (pCells L) (fun _ => false) (.slice (some ⟨0, 0, none⟩) (L.length + 1) 0) ((w2.alloc (.cells #[.int .i64 tick, .int .i64 qty, .int .u64 hi, .int .u64 lo] 138)).setCell ⟨p, 3, none⟩ (.int .i64 tick)) :=
    ⟨⟨sl, P3'.out.set3 _, fun _ => rfl, fun h => by cases h⟩, TBlk.keep (S := fun b => b = p) (TBlk.new' rfl) ((Keeps.refl _ _).setCell _ _ (.inl rfl)) (by have := P2'.out.lt; show ¬ w2.heap.size = p; omega), (K2'.out.alloc _).setCell _ _ (.inl (.inl rfl)),
      fun _ => ⟨?_, by simp, fun h => by cases h⟩, fun h => by cases h⟩
  rotate_left
  · have hS := S2'.out
    obtain ⟨h1, h2 | ⟨off, cap, cur, h3, h4, h5⟩⟩ := hS
    · exact ⟨h1, .inl h2⟩
    · refine ⟨h1, .inr ⟨off, cap, cur, h3, ?_, h5⟩⟩
      have hne : k ≠ p := PBlk.apart P2'.out S2'.out (by rw [h3]; simp)
      rw [Below.heap_setCell _ _ _ _ hne, Below.heap_alloc _ _ _ (lt_of_block h4)]
      exact h4
  have hsl : ∃ ad c, sl = .slice ad L.length c := S2'.out.len
  clear c3 f3
  refine wp_region_loose4 (fun g' m w' => AddC p k w2.heap.size (w2.heap.size + 1) L.length w (.int .i64 sp) (.int .i64 g) (.int .i64 r) (.int .i64 tick) (.int .u64 (W / M64)) (.int .u64 (W % M64)) (.int .i64 Q) sl (.int .i64 tick) (.int .i64 qty) (.int .u64 hi) (.int .u64 lo) (pCells L) g' m w') (fun v => ∃ b o c, v = .slice (some ⟨b, o, none⟩) (L.length + 1) c) 7 (fun i => ([.pointer (some ⟨p, 0, none⟩), .pointer (some ⟨p, 0, none⟩), .pointer (some ⟨p, 0, none⟩), .pointer (some ⟨p, 4, none⟩), sl, .agg #[.int .i64 tick, .int .i64 qty, .int .u64 hi, .int .u64 lo], .slice (some ⟨w2.heap.size + 1, 0, none⟩) 1 1, undef, .pointer (some ⟨p, 0, none⟩), .pointer (some ⟨p, 4, none⟩), undef] : List Value).getD i undef) (.slice (some ⟨0, 0, none⟩) (L.length + 1) 0) ⟨_, _, _, rfl⟩ mixed (by kernel_rfl) hC.drew ?_
  clear hC
  refine lex4_val (v := .pointer (some ⟨p, 0, none⟩)) (by decide) rfl rfl (fun g m w' hc => ⟨hc.P, hc.T, hc.K, hc.S, hc.G⟩) (fun g m w' hn hm hc => exec_move _ rfl rfl) ?_
  refine lex4_val (v := .pointer (some ⟨p, 0, none⟩)) (by decide) rfl rfl (fun g m w' hc => ⟨hc.P, hc.T, hc.K, hc.S, hc.G⟩) (fun g m w' hn hm hc => exec_move _ rfl rfl) ?_
  refine lex4_val (v := .pointer (some ⟨p, 0, none⟩)) (by decide) rfl rfl (fun g m w' hc => ⟨hc.P, hc.T, hc.K, hc.S, hc.G⟩) (fun g m w' hn hm hc => by clear hc hm hn; go_simp) ?_
  simp only [Act.put, List.setIfInBounds_toArray, List.set_cons_zero, List.set_cons_succ]
  refine lex4_val (v := .pointer (some ⟨p, 4, none⟩)) (by decide) rfl rfl (fun g m w' hc => ⟨hc.P, hc.T, hc.K, hc.S, hc.G⟩) (fun g m w' hn hm hc => by clear hc hm hn; go_simp) ?_
  refine lex4_val (v := sl) (by decide) rfl rfl (fun g m w' hc => ⟨hc.P, hc.T, hc.K, hc.S, hc.G⟩) (fun g m w' hn hm hc => by obtain ⟨v, hT, h1, -⟩ := hc.P; obtain rfl := h1 (hn.1 10 (by kernel_rfl)); have c4 := hT.cell 4 rfl; clear hT h1 hc hm hn; go_simp) ?_
  simp only [Act.put, List.setIfInBounds_toArray, List.set_cons_zero, List.set_cons_succ]
  refine lex4_val (v := .agg #[.int .i64 tick, .int .i64 qty, .int .u64 hi, .int .u64 lo]) (by decide) rfl rfl (fun g m w' hc => ⟨hc.P, hc.T, hc.K, hc.S, hc.G⟩) (fun g m w' hn hm hc => exec_load_trd _ rfl rfl hc.T) ?_
  refine lex4_mk (v := .slice (some ⟨w2.heap.size + 1, 0, none⟩) 1 1) (by decide) rfl rfl (fun g m w' hn hm hc => ?_) ?_
  · obtain ⟨hSg, hsz, -⟩ := hc.S (hn.1 7 (by kernel_rfl))
    rw [hn.2.2] at hsz
    have hsz' : w'.heap.size = w2.heap.size + 1 := hsz
    refine ⟨w'.alloc (.cells #[.int .i64 tick, .int .i64 qty, .int .u64 hi, .int .u64 lo] 138), by clear hn hm hSg hsz hc; go_simp, ?_⟩
    obtain ⟨v, hT, h1, h2⟩ := hc.P
    exact ⟨⟨v, hT.alloc _, h1, h2⟩, hc.T.alloc _, hc.K.alloc _, fun _ => ⟨hSg.keep (S := fun _ => False) ((Keeps.refl _ _).alloc _) (fun h => h), by simp [mark, hsz'], fun _ => TBlk.new' hsz'⟩, fun h => absurd (hn.1 7 (by kernel_rfl)) (by rw [show g 7 = true from h]; simp)⟩
  simp only [Act.put, List.setIfInBounds_toArray, List.set_cons_zero, List.set_cons_succ]
  refine lex4_new rfl rfl (fun g m w' hn hc => ?_) ?_
  · obtain ⟨hSg, hsz, hN⟩ := hc.S hn.2.2
    have hNb := hN (hn.2.1 6 (by kernel_rfl))
    obtain ⟨v, hT, h1, h2⟩ := hc.P
    obtain rfl := h1 (hn.1 10 (by kernel_rfl))
    obtain ⟨i0, hi0, hz0, hz1, hz2⟩ := info_parts info138
    have hl := HL.out
    obtain ⟨v', w'', k', hr, hs', hk', hd⟩ := run_append_seg (P := Try.prog) (w := w') 133 133 138 i0 _ 4 32 Try.underlying133 hi0 hz0 hz1 hz2 rfl (by decide) v k L.length (pCells L) hSg (.slice (some ⟨w2.heap.size + 1, 0, none⟩) 1 1) 1 [.int .i64 tick, .int .i64 qty, .int .u64 hi, .int .u64 lo] rfl
      (.inr ⟨_, _, rfl, fun j u hj => by
        rw [Addr.add_lit]
        match j, hj with
        | 0, hj => simp at hj; subst hj; exact hNb.cell 0 rfl
        | 1, hj => simp at hj; subst hj; exact hNb.cell 1 rfl
        | 2, hj => simp at hj; subst hj; exact hNb.cell 2 rfl
        | 3, hj => simp at hj; subst hj; exact hNb.cell 3 rfl⟩) (by simp [Value.oneCell']) (by unfold maxLen; omega) (by omega)
    rcases hd with ⟨-, -, h0, -⟩ | ⟨hd, hlt, hne⟩
    · cases h0
    have hpk : ¬ (p = k ∧ v ≠ .slice none 0 0) := fun h => PBlk.apart hT hSg h.2 h.1.symm
    have P' := hT.keep hk' hpk
    have hkp := PBlk.apart P' hs' hne
    obtain ⟨ad, c, hv'⟩ := hs'.len
    have T' := hc.T.keep hk' (fun h => by have := hc.K.size; omega)
    refine ⟨v', w'', exec_append (.tmp 45) (.tmp 47) 133 rfl rfl rfl rfl hr, ?_, ?_⟩
    · obtain ⟨_, h | ⟨off, cap, _, h, _⟩⟩ := hs'
      · exact absurd h.1 hne
      · exact ⟨_, _, _, h⟩
    · exact ⟨⟨v, P', fun _ => rfl, fun h => absurd (hn.1 10 (by kernel_rfl)) (by rw [show g 10 = true from h]; simp)⟩, T', hc.K.trans (hk'.mono (fun b hb => .inr hb.1)), (fun h => by simp [mark] at h), fun _ => ⟨k', hs', hne, by rcases hd with hd | hd; exact .inl hd.1; exact .inr (Nat.le_trans hc.K.size hd), hkp⟩⟩
  rintro v ⟨kb, ko, kc, rfl⟩
  simp only [Act.put, List.setIfInBounds_toArray, List.set_cons_zero, List.set_cons_succ]
  refine lex4_val (v := .pointer (some ⟨p, 0, none⟩)) (by decide) rfl rfl (fun g m w' hc => ⟨hc.P, hc.T, hc.K, hc.S, hc.G⟩) (fun g m w' hn hm hc => by clear hc hm hn; go_simp) ?_
  refine lex4_val (v := .pointer (some ⟨p, 4, none⟩)) (by decide) rfl rfl (fun g m w' hc => ⟨hc.P, hc.T, hc.K, hc.S, hc.G⟩) (fun g m w' hn hm hc => by clear hc hm hn; go_simp) ?_
  simp only [Act.put, List.setIfInBounds_toArray, List.set_cons_zero, List.set_cons_succ]
  refine lex4_put (by decide) rfl rfl (fun g m w' hn hm hc => ?_) ?_
  · obtain ⟨v, hT, h1, h2⟩ := hc.P
    obtain rfl := hm.2 _ rfl
    have c4 := hT.cell 4 rfl
    have f4 := hT.free 4
    have h7 := hn.2.1 7 (by kernel_rfl)
    obtain ⟨k', hs', hne, hd, hkp⟩ := hc.G h7
    have hx : Keeps (fun b => b = p) w' (w'.setCell ⟨p, 4, none⟩ (.slice (some ⟨kb, ko, none⟩) (L.length + 1) kc)) := (Keeps.refl _ _).setCell _ _ (.inl rfl)
    refine ⟨w'.setCell ⟨p, 4, none⟩ (.slice (some ⟨kb, ko, none⟩) (L.length + 1) kc), by clear hx hs' hne hd hkp h7 hT h1 h2 hc hm hn; go_simp, ?_⟩
    exact ⟨⟨_, hT.set4 _, (fun h => by simp [mark] at h), fun _ => rfl⟩, hc.T.keep hx (by show ¬ w2.heap.size = p; omega), hc.K.setCell _ _ (.inl (.inl rfl)), (fun h => by rw [show mark g _ 7 = g 7 from rfl, h7] at h; cases h), fun _ => ⟨k', hs'.keep hx hkp, hne, hd, hkp⟩⟩
  simp only [Act.put]
  refine lex4_nil ?_
  rintro m w3 hm hc
  obtain rfl := hm.2 _ rfl
  obtain ⟨v, hT, -, h2⟩ := hc.P
  obtain rfl := h2 rfl
  obtain ⟨k', hs', hne, hd, hkp⟩ := hc.G rfl
  have T3 := hc.T
  have K3 := hc.K
  have c5 := hT.cell 5 rfl
  have c6 := hT.cell 6 rfl
  have d2 := T3.cell 2 rfl
  have d3 := T3.cell 3 rfl
  have HT3 := hide hT
  have HS3 := hide hs'
  have HK3 := hide K3
  have HD := hide hd
  have HKP := hide hkp
  clear hm hc h2 hT hs' hne hd hkp T3 K3
  clear P3' P2' S2' K2' HS HP hsl
  go_wp2_with (fail)
  (with_reducible refine (wadd_any (W / M64) (W % M64) hi lo _ HB.out.2.1.1 HB.out.2.1.2.2.1 (by rw [HHI.out]; exact HB.out.2.2.1.1) (by rw [HLO.out]; exact HB.out.2.2.1.2.2.1) HB.out.2.1.2.1 HB.out.2.1.2.2.2 (by rw [HHI.out]; exact HB.out.2.2.1.2.1) (by rw [HLO.out]; exact HB.out.2.2.1.2.2.2)).mono ?_)
  rintro e w4 ⟨rfl, hb⟩
  have P4 := HT3.out.below hb HT3.out.lt
  have S4 := HS3.out.keep (Keeps.of_below (S := fun _ => False) hb) (fun h => h)
  have K4 := HK3.out.trans (Keeps.of_below (S := fun b => b = p ∨ b = k) hb)
  clear hb c5 c6 d2 d3 HT3 HS3 HK3
  have hsum : (wv (W / M64) (W % M64) + wv hi lo) % M128 = W + price * qty ∧ (wv (W / M64) (W % M64) + wv hi lo) % M64 = (W + price * qty) % M64 := by
    have e1 := HB.out.1.2.2.2.2
    have e2 := HB.out.1.1
    have e3 := HB.out.1.2.2.1
    rw [HHI.out, HLO.out, wv_split, wv_split]
    exact ⟨Int.emod_eq_of_lt (by omega) e1, rfl⟩
  rw [hsum.1, hsum.2]
  obtain ⟨nh, hnh⟩ : ∃ x, x = (W + price * qty) / M64 := ⟨_, rfl⟩
  obtain ⟨nl, hnl⟩ : ∃ x, x = (W + price * qty) % M64 := ⟨_, rfl⟩
  obtain ⟨nb, hnb⟩ : ∃ x, x = decide (wv (W / M64) (W % M64) + wv hi lo < M128) := ⟨_, rfl⟩
  rw [← hnh, ← hnl, ← hnb]
  have HNH := hide hnh
  have HNL := hide hnl
  clear hsum hnh hnl hnb
  dsimp only
  have P5 := P4.set5 (.int .u64 nh)
  have P6 := P5.set6 (.int .u64 nl)
  have c5 := P4.cell 5 rfl
  have c6 := P4.cell 6 rfl
  have f5 := P4.free 5
  have f6 := P4.free 6
  have e6 := P5.cell 6 rfl
  have g6 := P5.free 6
  have c7 := P6.cell 7 rfl
  have f7 := P6.free 7
  have P7 := hide (P6.set7 (.int .i64 (Q + qty)))
  have S4' := hide S4
  have K4' := hide K4
  clear P4 P5 P6 S4 K4
  go_wp2
  go_ret
  refine ⟨rfl, k', HD.out, ?_, ((K4'.out.setCell _ _ (.inl (.inl rfl))).setCell _ _ (.inl (.inl rfl))).setCell _ _ (.inl (.inl rfl))⟩
  have eW : wSum (L ++ [(tick, price, qty)]) = W + price * qty := by rw [wSum_append, HW.out]; simp [wSum]
  have eQ : qSum (L ++ [(tick, price, qty)]) = Q + qty := by rw [qSum_append, HQ.out]; simp [qSum]
  refine ⟨.slice (some ⟨kb, ko, none⟩) (L.length + 1) kc, ?_, ?_, fun h => by cases h⟩
  · rw [eW, eQ, ← HNH.out, ← HNL.out]
    exact P7.out
  · rw [pCells_append, List.length_append]
    have hx := ((((Keeps.refl (fun b => b = p) w4).setCell ⟨p, 5, none⟩ (.int .u64 nh) (.inl rfl)).setCell ⟨p, 6, none⟩ (.int .u64 nl) (.inl rfl)).setCell ⟨p, 7, none⟩ (.int .i64 (Q + qty)) (.inl rfl))
    have h9 := S4'.out.keep hx HKP.out
    have e : pCell (tick, price, qty) = [.int .i64 tick, .int .i64 qty, .int .u64 hi, .int .u64 lo] := by unfold pCell; rw [HHI.out, HLO.out]
    rw [e]
    exact h9
def addP (la tick price qty : Int) : Prop := comesF la tick = true ∧ (1 ≤ price ∧ price ≤ 1099511627776) ∧ (1 ≤ qty ∧ qty ≤ 4294967296)
instance (la tick price qty : Int) : Decidable (addP la tick price qty) := by
  unfold addP
  infer_instance
set_option maxRecDepth 100000 in
set_option maxHeartbeats 4000000 in
theorem add_no (p k : Nat) (sp g r la : Int) (L : List Trd) (tick price qty : Int) (w : World) (h : PWin w p k sp g r la L) (ho : okI price) (hn : ¬ addP la tick price qty) :
    Calls Try.prog 89 #[.pointer (some ⟨p, 0, none⟩), .int .i64 tick, .int .i64 price, .int .i64 qty] w fun e w' => e = .returned (.int .i64 9) ∧ Below w.heap.size w w' := by
  obtain ⟨sl, hP, -, -⟩ := h
  have c3 := hP.cell 3 rfl
  have HO := hide ho
  clear hP ho
  cases hc : comesF la tick
  · have HC := hide hc
    clear hc hn
    go_enter Try.func89, Try.ntmps89
    go_wp2_with (fail)
    (with_reducible refine (comes_any p la tick _ c3).mono ?_)
    rintro e w ⟨rfl, rfl⟩
    rw [HC.out]
    dsimp only
    go_wp2
    go_ret
    exact ⟨rfl, Below.refl _ _⟩
  by_cases hp : 1 ≤ price ∧ price ≤ 1099511627776
  rotate_left
  · have HC := hide hc
    have HP := hide (decide_eq_false hp)
    clear hc hn hp
    go_enter Try.func89, Try.ntmps89
    go_wp2_with (fail)
    (with_reducible refine (comes_any p la tick _ c3).mono ?_)
    rintro e w ⟨rfl, rfl⟩
    rw [HC.out]
    dsimp only
    go_wp2_with (fail)
    (with_reducible refine (priced_any price 1 _ HO.out (by decide)).mono ?_)
    rintro e w ⟨rfl, rfl⟩
    rw [priced_one, HP.out]
    dsimp only
    go_wp2
    go_ret
    exact ⟨rfl, Below.refl _ _⟩
  · have HC := hide hc
    have HP := hide (decide_eq_true hp)
    have HQ : Hid (qtyF qty = 9) := hide (by
      unfold qtyF
      rw [if_pos]
      have : ¬ (1 ≤ qty ∧ qty ≤ 4294967296) := fun h => hn ⟨hc, hp, h⟩
      omega)
    clear hc hn hp
    go_enter Try.func89, Try.ntmps89
    go_wp2_with (fail)
    (with_reducible refine (comes_any p la tick _ c3).mono ?_)
    rintro e w ⟨rfl, rfl⟩
    rw [HC.out]
    dsimp only
    go_wp2_with (fail)
    (with_reducible refine (priced_any price 1 _ HO.out (by decide)).mono ?_)
    rintro e w ⟨rfl, rfl⟩
    rw [priced_one, HP.out]
    dsimp only
    go_wp2_with (fail)
    (with_reducible refine (qty_any qty _).mono ?_)
    rintro e w1 ⟨rfl, hb⟩
    have B1 := hide hb
    clear hb
    rw [HQ.out]
    dsimp only
    go_wp2
    go_ret
    exact ⟨rfl, B1.out⟩
theorem winadd_any (p k : Nat) (sp g r la : Int) (L : List Trd) (tick price qty : Int) (w : World) (h : PWin w p k sp g r la L) (hL : ∀ t ∈ L, okT t) (hl : L.length ≤ 200) (ho : okI price) :
    Calls Try.prog 89 #[.pointer (some ⟨p, 0, none⟩), .int .i64 tick, .int .i64 price, .int .i64 qty] w fun e w' => e = .returned (.int .i64 (if addP la tick price qty then 0 else 9)) ∧
      ∃ k', (k' = k ∨ w.heap.size ≤ k') ∧ PWin w' p k' sp g r (if addP la tick price qty then tick else la) (if addP la tick price qty then L ++ [(tick, price, qty)] else L) ∧ Keeps (fun b => b = p ∨ b = k) w w' := by
  by_cases ha : addP la tick price qty
  · rw [if_pos ha, if_pos ha, if_pos ha]
    exact add_ok p k sp g r la L tick price qty w h hL hl ha.1 ha.2.1 ha.2.2
  · rw [if_neg ha, if_neg ha, if_neg ha]
    refine (add_no p k sp g r la L tick price qty w h ho ha).mono ?_
    rintro e w' ⟨rfl, hb⟩
    exact ⟨rfl, k, .inl rfl, h.keep (Keeps.of_below (S := fun _ => False) hb) (fun h => h) (fun h => h), Keeps.of_below hb⟩
end Go.Proofs.Ytadilccdipcmnaa
