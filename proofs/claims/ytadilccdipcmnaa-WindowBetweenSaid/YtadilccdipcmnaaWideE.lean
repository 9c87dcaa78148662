/- The program's numbers of 128 bits: what Text comes to. Arguments: words from 0 to 2^64 - 1. -/
import Derived.Test.YtadilccdipcmnaaWideD
namespace Go.Proofs.Ytadilccdipcmnaa
open Go Go.RowKit
attribute [local go_sem] field_two0 field_two1

/-! Two numbers of two words held against each other -/
theorem guard25 : Try.prog.eqGuardType Try.prog.depth 25 = false := by kernel_rfl
theorem stood25 : Try.prog.stoodInHeld 25 = false := by kernel_rfl
theorem fields25 : Try.prog.underlying 25 = some (.struct (Try.prog.fieldsOf 25)) := by kernel_rfl
theorem eq_two (a b c d : Int) (w : World) : (binOp .eql 25 (.agg #[.int .u64 a, .int .u64 b]) (.agg #[.int .u64 c, .int .u64 d])).run Try.prog w = .ok (.bool (a == c && b == d)) w := by
  rw [run_eql_struct, run_equalIn_agg w 9999 25 _ _ fields25 stood25]
  have hf : (Try.prog.fieldsOf 25).toList = [{ name := "Hi", type := 22, offset := 0, embedded := false, tag := "", pkgPath := "", byteOffset := 0 }, { name := "Lo", type := 22, offset := 1, embedded := false, tag := "", pkgPath := "", byteOffset := 8 }] := by kernel_rfl
  have hp0 : ∀ x y : Value, (part 22 #[x, y] 0).run Try.prog w = .ok x w := fun x y => by kernel_rfl
  have hp1 : ∀ x y : Value, (part 22 #[x, y] 1).run Try.prog w = .ok y w := fun x y => by kernel_rfl
  have he : ∀ p q : Int, (Op.equalIn 9999 22 (.int .u64 p) (.int .u64 q)).run Try.prog w = .ok (p == q) w := fun p q => run_equalIn_int w 9998 22 .u64 .u64 p q Try.underlying22
  rw [hf]
  simp only [Op.eqFields]
  rw [if_pos (by decide), if_pos (by decide)]
  simp only [Sem.run_bind, hp0, he, Result.andThen_ok]
  cases h1 : (a == c)
  · simp
  · cases h2 : (b == d)
    · simp [hp1, he, h2]
    · simp [hp1, he, h2]
theorem guard_two (op : BinOp) (x y : Operand) (xs ys : Array Value) (w : World) : (eqGuard op 25 x y (.agg xs) (.agg ys)).run Try.prog w = .ok () w := run_eqGuard_agg w op 25 x y xs ys guard25
theorem eq_step {ops : Array Oper} {rest : List Oper} {o : Oper} {a : Act} {w : World} {Q : Exit → Act → World → Prop} {x y : Operand} {t : TypeId} {p q r s : Int} (hgd : o.guard = none) (ho : o.op = .binOp .eql 25 x y t) (hx : a.eval x = .agg #[.int .u64 p, .int .u64 q]) (hy : a.eval y = .agg #[.int .u64 r, .int .u64 s])
    (h : wpList Try.prog ops Q rest (a.put o.dst (.bool (p == r && q == s))) w) : wpList Try.prog ops Q (o :: rest) a w :=
  wpList_plain hgd fun K hK => by
    unfold Oper.wp
    simp only [execOp, ho, hx, hy, Sem.run_bind, guard_two, eq_two, Result.andThen, Sem.run_pure]
    exact hK _ _ h

theorem Holds.setCell {B g : Nat} {bs : List Value} {w : World} (h : Holds B g bs w) {p : Addr} (hp : p.block < g) (u : Value) : Holds B g bs (w.setCell p u) := by
  obtain ⟨h1, v, h2, h3, h4⟩ := h
  refine ⟨h1, v, by rw [Below.heap_setCell w p u g (by omega)]; exact h2, ownsRow_setCell_other h3 (fun e => ?_) u, h4⟩
  rcases h3.2 with ⟨rfl, _⟩ | ⟨k, cap, cur, rfl, hB, _⟩
  · cases e
  · simp only [Value.ownBlock, Option.some.injEq] at e
    omega
theorem cells_snoc (ds : List UInt8) (m : Nat) : Lib.byteCells ds ++ [Value.int .u8 (48 + (m : Int) % 10)] = Lib.byteCells (ds ++ [digit (m % 10)]) := by
  unfold Lib.byteCells digit
  have e : (UInt8.ofNat (48 + m % 10)).toNat = 48 + m % 10 := by rw [UInt8.toNat_ofNat']; omega
  rw [List.map_append, List.map_cons, List.map_nil, e, show ((48 + m % 10 : Nat) : Int) = 48 + (m : Int) % 10 by omega]
set_option maxRecDepth 100000 in
set_option maxHeartbeats 4000000 in
theorem wtext_any (h l : Int) (w : World) (hh : 0 ≤ h) (hl : 0 ≤ l) (hh2 : h < M64) (hl2 : l < M64) :
    Calls Try.prog 37 #[.agg #[.int .u64 h, .int .u64 l]] w fun e w' => e = .returned (.string ⟨(dec (wv h l).toNat).toArray⟩) ∧ Below w.heap.size w w' := by
  obtain ⟨n, hn⟩ := Int.eq_ofNat_of_zero_le (wv_bd hh hl hh2 hl2).1
  have hn2 : (n : Int) < M128 := by have := (wv_bd hh hl hh2 hl2).2; omega
  have eh : h = (n : Int) / M64 := by rw [← hn, wv_hi hl hl2]
  have el : l = (n : Int) % M64 := by rw [← hn, wv_lo hl hl2]
  rw [hn, Int.toNat_natCast]
  clear hn hh hl hh2 hl2
  subst eh
  subst el
  go_enter Try.func37, Try.ntmps37
  go_wp2
  go_loopg [] n (fun m wr => ∃ ds : List UInt8, m ≤ n ∧ dec n = dec m ++ ds.reverse ∧ Two wr w.heap.size (.int .u64 ((m : Int) / M64)) (.int .u64 ((m : Int) % M64)) ∧ Holds (w.heap.size + 1 + 1) (w.heap.size + 1) (Lib.byteCells ds) wr ∧ Below w.heap.size w wr)
  case atStart => exact ⟨[], by omega, by simp, (Two.new w _ _).alloc _, ⟨by omega, .slice none 0 0, heap_alloc2_new _ _ _, ⟨rfl, .inl ⟨rfl, rfl⟩⟩, by intro h; cases h⟩, ((Below.refl _ _).alloc (Nat.le_refl _) _).alloc (by simp) _⟩
  case round =>
    obtain ⟨ds, hm, hd, tA, hH, hB⟩ := hrel
    have hlen : ds.length ≤ 39 := by
      have h1 := dec_len 38 n (by rw [M128_eq] at hn2; omega)
      rw [hd, List.length_append, List.length_reverse] at h1
      omega
    have Hd := hide hd
    have hb := halves_bd (gk : Int) (by omega) (by omega)
    have c0 := tA.c0
    have c1 := tA.c1
    have tA' := hide tA
    have hH' := hide hH
    have hB' := hide hB
    clear hd tA hH hB
    go_wp2_with (go_at_call 34; (with_reducible refine (wdiv_any ((gk : Int) / M64) ((gk : Int) % M64) 10 _ hb.1 hb.2.2.1 hb.2.1 hb.2.2.2 (by decide) (by decide)).mono ?_))
    rintro e w1 ⟨rfl, hb1⟩
    dsimp only
    rw [wv_halves]
    have tA1 := hide (tA'.out.below hb1 tA'.out.lt)
    have hH1 := hide (hH'.out.below hb1)
    have hB1 := hide (hB'.out.trans (hb1.mono hB'.out.size))
    have hs1 := hb1.size
    clear tA' hH' hB' hb1 c0 c1
    go_wp2_with (fail)
    have hHa := hH1.out.below ((Below.refl _ w1).alloc (Nat.le_refl _) (.cells #[.int .u64 ((gk : Int) / 10 / M64), .int .u64 ((gk : Int) / 10 % M64)] 25))
    have lt1 := hH1.out.lt
    (with_reducible refine (put_any (w.heap.size + 1 + 1) (w.heap.size + 1) (Lib.byteCells ds) ((gk : Int) % 10) _ hHa (by rw [Lib.byteCells_length]; omega) (by simp <;> omega) (by omega) (by omega)).mono ?_)
    rintro e w2 ⟨rfl, hH2, hb2, hT2⟩
    dsimp only
    have lA := tA1.out.lt
    have hq := hT2 w1.heap.size _ _ (by omega) (Two.new w1 _ _)
    have hA := hT2 w.heap.size _ _ (by omega) (tA1.out.alloc _)
    have hB2 := hide ((hB1.out.alloc hB1.out.size _).trans (hb2.mono (by omega)))
    have hH2' := hide hH2
    have hA2 := hide hA
    clear hHa hT2 hH2 hb2 hA tA1 hH1 hB1 lt1
    have hT : ((((gk : Int) / 10 / M64) == 0) && (((gk : Int) / 10 % M64) == 0)) = decide (gk / 10 = 0) := by
      rw [Bool.eq_iff_iff, M64_eq]
      simp
      omega
    have Hm := hide (show (gk : Int) % 10 = ((gk % 10 : Nat) : Int) by omega)
    have Hq10 := hide (show ((gk / 10 : Nat) : Int) = (gk : Int) / 10 by omega)
    have hgk := hide hm
    have hlen' := hide hlen
    have c0 := hq.c0
    have c1 := hq.c1
    clear hb lA hs1 hm hlen hq
    by_cases hz : gk / 10 = 0
    · have Hz := hide hz
      rw [decide_eq_true hz] at hT
      clear hz
      obtain ⟨_, v, hv, hown, hne⟩ := hH2'.out
      rw [cells_snoc, Lib.byteCells_length] at hown
      have hDS : (ds ++ [digit (gk % 10)]).reverse = dec n := by
        rw [Hd.out, dec_last Hz.out]
        simp
      have hN : 1 ≤ (ds ++ [digit (gk % 10)]).length ∧ (ds ++ [digit (gk % 10)]).length ≤ 40 := by
        have := hlen'.out
        simp <;> omega
      clear hH2' Hd
      generalize ds ++ [digit (gk % 10)] = DS at *
      obtain ⟨hN1, hN2⟩ := hN
      have hcut : ∀ k, k < DS.length → DS.drop k = (DS[k]?.getD 0) :: DS.drop (k + 1) := fun k hk => by
        rw [List.drop_eq_getElem_cons hk, List.getElem?_eq_getElem hk]
        rfl
      have hcell : ∀ k, k < DS.length → ∃ g cap, v = .slice (some ⟨g, 0, none⟩) DS.length cap ∧ g < w2.heap.size ∧ w2.cell? ⟨g, k, none⟩ = some (.int .u8 (DS[k]?.getD 0).toNat) := fun k hk => by
        rcases hown.2 with ⟨_, h0⟩ | ⟨g, cap, cur, hv, _, hg, h1, h2, h3, h4⟩
        · omega
        · refine ⟨g, cap, hv, lt_of_block hg, ?_⟩
          rw [cell_of_row w2 g k _ _ _ hg]
          have h5 : (cur.toList.take (DS.length * 1))[k]? = (Lib.byteCells DS)[k]? := by rw [h4]
          rw [List.getElem?_take, if_pos (by omega), Array.getElem?_toList] at h5
          rw [h5]
          unfold Lib.byteCells
          rw [List.getElem?_map, List.getElem?_eq_getElem hk]
          rfl
      obtain ⟨g, cap, rfl, hg, _⟩ := hcell 0 (by omega)
      have hcell' : ∀ k, k < DS.length → w2.cell? ⟨g, k, none⟩ = some (.int .u8 (DS[k]?.getD 0).toNat) := fun k hk => by
        obtain ⟨g', cap', e, _, h⟩ := hcell k hk
        injection e with e1
        injection e1 with e2
        injection e2 with e3
        subst e3
        exact h
      have d0 : w2.cell? ⟨w.heap.size + 1, 0, none⟩ = some (.slice (some ⟨g, 0, none⟩) DS.length cap) := cell_of_one hv
      have lt2 := lt_of_block hv
      have Hcell := hide hcell'
      have Hd0 := hide d0
      have HDS := hide hDS
      have Hcut := hide hcut
      clear hown hne hv hcell hcell' hDS hcut
      generalize hNN : DS.length = N at *
      have HN := hide hNN
      clear hNN
      go_wp2_with (((with_reducible apply eq_step); exact rfl; exact rfl; exact rfl; exact rfl; rw [hT]; simp only [Act.put, List.setIfInBounds_toArray, List.set_cons_zero, List.set_cons_succ]))
      clear d0 c0 c1 hT
      have hBu : Lib.IsBuilder 111 5 w2.heap.size w2.heap.size (Lib.byteCells (DS.drop N).reverse) (w2.alloc (.cells #[.pointer none, .slice none 0 0] 111)) := by
        rw [List.drop_eq_nil_of_le (by rw [HN.out]; omega)]
        exact .inl ⟨Nat.le_refl _, .slice none 0 0, heap_alloc_new w2 _, ⟨rfl, .inl ⟨rfl, rfl⟩⟩, by intro h; cases h⟩
      go_loopw [9] (fun i wr => ∃ k : Nat, k ≤ N ∧ i = .int .i64 ((k : Int) - 1) ∧ Lib.IsBuilder 111 5 w2.heap.size w2.heap.size (Lib.byteCells (DS.drop k).reverse) wr ∧ Below w2.heap.size w2 wr) (fun i _ => (intOf i + 1).toNat)
      case atStart => exact ⟨N, Nat.le_refl _, rfl, hBu, (Below.refl _ _).alloc (Nat.le_refl _) _⟩
      case round =>
        obtain ⟨k, hk, rfl, hU, hb⟩ := hrel
        clear hBu
        cases k with
        | zero =>
          have HU := hide hU
          have Hb := hide hb
          have hsz := hb.size
          clear hU hb
          go_wp2_with (fail)
          (with_reducible refine (Try.Builder_String_any w2.heap.size w2.heap.size (DS.drop 0).reverse _ HU.out (by omega)).mono ?_)
          rintro e w4 ⟨rfl, hb4⟩
          dsimp only
          go_wp2
          go_ret
          exact ⟨by rw [List.drop_zero, HDS.out]; rfl, hB2.out.trans ((Hb.out.trans hb4).mono (by omega))⟩
        | succ k =>
          have hk2 : k < N := by omega
          rw [show (((k + 1 : Nat) : Int) - 1) = (k : Int) by omega]
          have d0 : wr.cell? ⟨w.heap.size + 1, 0, none⟩ = some (.slice (some ⟨g, 0, none⟩) N cap) := (hb.cell (p := ⟨w.heap.size + 1, 0, none⟩) lt2).trans Hd0.out
          have d1 : wr.cell? ⟨g, k, none⟩ = some (.int .u8 (DS[k]?.getD 0).toNat) := (hb.cell (p := ⟨g, k, none⟩) hg).trans (Hcell.out k hk2)
          have HU := hide hU
          have Hb := hide hb
          have hsz := hb.size
          clear hU hb
          generalize hc : DS[k]?.getD 0 = c at *
          have Hc := hide hc
          clear hc
          go_wp2_with (fail)
          (with_reducible refine (writebyte_any w2.heap.size w2.heap.size (Lib.byteCells (DS.drop (k + 1)).reverse) (c.toNat : Int) _ HU.out (by rw [Lib.byteCells_length, List.length_reverse, List.length_drop, HN.out]; omega) (by omega)).mono ?_)
          rintro e w4 ⟨rfl, hU4, hb4⟩
          dsimp only
          have eU : Lib.byteCells (DS.drop (k + 1)).reverse ++ [Value.int .u8 (c.toNat : Int)] = Lib.byteCells (DS.drop k).reverse := by
            rw [Hcut.out k (by omega), Hc.out, List.reverse_cons]
            unfold Lib.byteCells
            rw [List.map_append]
            rfl
          rw [eU] at hU4
          have HU4 := hide hU4
          have Hb4 := hide (Hb.out.trans hb4)
          clear hU4 eU hb4 d0 d1
          go_wp2
          go_roundw
          case rel => exact ⟨k, by omega, rfl, HU4.out, Hb4.out⟩
          case measure => simp [intOf] <;> omega
    · have hz' := hide hz
      rw [decide_eq_false hz] at hT
      clear hz
      have a0 := hA2.out.c0
      have a1 := hA2.out.c1
      have f0 := hA2.out.free 0
      have f1 := hA2.out.free 1
      have la := hA2.out.lt
      go_wp2_with (((with_reducible apply eq_step); exact rfl; exact rfl; exact rfl; exact rfl; rw [hT]; simp only [Act.put, List.setIfInBounds_toArray, List.set_cons_zero, List.set_cons_succ]))
      go_roundg (gk / 10)
      case measure => have := hz'.out; omega
      case rel =>
        refine ⟨ds ++ [digit (gk % 10)], by have := hgk.out; omega, ?_, ?_, ?_, (hB2.out.setCell (by simp) _).setCell (by simp) _⟩
        · rw [Hd.out, dec_more hz'.out]
          simp
        · rw [Hq10.out]
          exact hA2.out.set2
        · have hH := (hH2'.out.setCell (p := ⟨w.heap.size, 0, none⟩) (by simp) (.int .u64 ((gk : Int) / 10 / M64))).setCell (p := ⟨w.heap.size, 1, none⟩) (by simp) (.int .u64 ((gk : Int) / 10 % M64))
          rw [← cells_snoc]
          exact hH
end Go.Proofs.Ytadilccdipcmnaa
