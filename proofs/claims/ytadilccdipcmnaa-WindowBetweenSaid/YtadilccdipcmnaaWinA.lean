/- A slice of the call's own, wherever in its block it begins, and what append makes of it; worlds that differ in some blocks alone. Condition: the lengths lie within the machine's bounds. -/
import Derived.Test.YtadilccdipcmnaaReg3
import Derived.ArgAppend
import Derived.Laws.CopyRow
namespace Go.Proofs.Ytadilccdipcmnaa
open Go Go.RowKit

/-- w' is w with new blocks, and with writes to the blocks of S alone. -/
structure Keeps (S : Nat → Prop) (w w' : World) : Prop where
  os : w'.os = w.os
  tape : w'.tape = w.tape
  output : w'.output = w.output
  size : w.heap.size ≤ w'.heap.size
  block : ∀ k, k < w.heap.size → ¬ S k → w'.heap[k]? = w.heap[k]?
section
variable {S T : Nat → Prop} {w w' w'' : World}
theorem Keeps.refl (S : Nat → Prop) (w : World) : Keeps S w w := ⟨rfl, rfl, rfl, Nat.le_refl _, fun _ _ _ => rfl⟩
theorem Keeps.trans (h : Keeps S w w') (k : Keeps S w' w'') : Keeps S w w'' :=
  ⟨k.os.trans h.os, k.tape.trans h.tape, k.output.trans h.output, Nat.le_trans h.size k.size, fun i hi hs => (k.block i (Nat.lt_of_lt_of_le hi h.size) hs).trans (h.block i hi hs)⟩
theorem Keeps.mono (h : Keeps S w w') (hs : ∀ k, S k → T k) : Keeps T w w' := ⟨h.os, h.tape, h.output, h.size, fun i hi ht => h.block i hi (fun hk => ht (hs i hk))⟩
theorem Keeps.of_below (h : Below w.heap.size w w') : Keeps S w w' := ⟨h.os, h.tape, h.output, h.size, fun i hi _ => h.block i hi⟩
theorem Keeps.of_grown {row : Option Nat} (h : w.grownBy w' row) (hs : ∀ k, row = some k → S k) : Keeps S w w' :=
  ⟨h.os, h.tape, h.output, h.size, fun i hi hn => h.block i hi (fun e => hn (hs i e.symm))⟩
theorem Keeps.below {B : Nat} (h : Keeps S w w') (hB : B ≤ w.heap.size) (hs : ∀ k, S k → B ≤ k) : Below B w w' :=
  ⟨h.os, h.tape, h.output, h.size, fun i hi => h.block i (Nat.lt_of_lt_of_le hi hB) (fun hk => by have := hs i hk; omega)⟩
theorem Keeps.alloc (h : Keeps S w w') (o : Obj) : Keeps S w (w'.alloc o) :=
  h.trans (Keeps.of_below ((Below.refl _ _).alloc (Nat.le_refl _) o))
theorem Keeps.drew (h : Keeps S w w') : Keeps S w w'.drew := ⟨h.os, h.tape, h.output, h.size, h.block⟩
theorem Keeps.setCell (h : Keeps S w w') (p : Addr) (v : Value) (hp : S p.block ∨ w.heap.size ≤ p.block) : Keeps S w (w'.setCell p v) := by
  refine ⟨h.os, h.tape, h.output, by simpa using h.size, fun i hi hn => ?_⟩
  rw [Below.heap_setCell w' p v i (fun e => by subst e; rcases hp with hp | hp; exact hn hp; omega)]
  exact h.block i hi hn
theorem Keeps.setRow (h : Keeps S w w') (b : Nat) (cs : Array Value) (hp : S b ∨ w.heap.size ≤ b) : Keeps S w (w'.setRow b cs) := by
  refine ⟨h.os, h.tape, h.output, by simpa using h.size, fun i hi hn => ?_⟩
  rw [Go.setRow_other w' b i cs (fun e => by subst e; rcases hp with hp | hp; exact hn hp; omega)]
  exact h.block i hi hn
/-- What lies in a block that is left alone lies there still. -/
theorem Keeps.heap (h : Keeps S w w') {k : Nat} {x : Obj} (hk : w.heap[k]? = some x) (hn : ¬ S k) : w'.heap[k]? = some x := by
  rw [h.block k (by rcases Nat.lt_or_ge k w.heap.size with h' | h'; exact h'; rw [Array.getElem?_eq_none h'] at hk; cases hk) hn]
  exact hk
end

/-- The slice v, of n elements of sz cells, of block k, holds the cells xs. -/
def Seg (w : World) (e sz : Nat) (v : Value) (k n : Nat) (xs : List Value) : Prop :=
  xs.length = n * sz ∧ ((v = .slice none 0 0 ∧ n = 0) ∨ ∃ off cap cur, v = .slice (some ⟨k, off, none⟩) n cap ∧ w.heap[k]? = some (.cells cur e (0, 0)) ∧ n ≤ cap ∧ cap ≤ maxLen ∧ off + cap * sz ≤ cur.size ∧ ∀ j u, xs[j]? = some u → cur[off + j]? = some u)
section
variable {S : Nat → Prop} {w w' : World} {e sz : Nat} {v : Value} {k n : Nat} {xs : List Value}
theorem Seg.keep (h : Seg w e sz v k n xs) (hk : Keeps S w w') (hn : ¬ S k) : Seg w' e sz v k n xs := by
  obtain ⟨h1, h2 | ⟨off, cap, cur, h3, h4, h5⟩⟩ := h
  · exact ⟨h1, .inl h2⟩
  · exact ⟨h1, .inr ⟨off, cap, cur, h3, hk.heap h4 hn, h5⟩⟩
theorem Seg.nil (w : World) (e sz k : Nat) : Seg w e sz (.slice none 0 0) k 0 [] := ⟨by simp, .inl ⟨rfl, rfl⟩⟩
theorem Seg.of_owns {base : Nat} (h : w.ownsRow base e sz v n xs) (k0 : Nat) : ∃ k, Seg w e sz v k n xs ∧ (v = .slice none 0 0 ∧ k = k0 ∨ base ≤ k ∧ k < w.heap.size) := by
  obtain ⟨h1, h2 | ⟨g, cap, cur, h3, h4, h5, h6, h7, h8, h9⟩⟩ := h
  · exact ⟨k0, ⟨h1, .inl h2⟩, .inl ⟨h2.1, rfl⟩⟩
  · refine ⟨g, ⟨h1, .inr ⟨0, cap, cur, h3, h5, h6, h7, by omega, fun j u hj => ?_⟩⟩, .inr ⟨h4, lt_of_block h5⟩⟩
    rw [← h9] at hj
    rw [List.getElem?_take] at hj
    split at hj
    · simpa using hj
    · cases hj
theorem Seg.len (h : Seg w e sz v k n xs) : ∃ ad cap, v = .slice ad n cap := by
  obtain ⟨_, ⟨h2, h3⟩ | ⟨off, cap, cur, h3, _⟩⟩ := h
  · subst h3
    exact ⟨_, _, h2⟩
  · exact ⟨_, _, h3⟩
theorem Seg.lt (h : Seg w e sz v k n xs) : v = .slice none 0 0 ∨ k < w.heap.size := by
  obtain ⟨_, ⟨h2, _⟩ | ⟨off, cap, cur, _, h4, _⟩⟩ := h
  · exact .inl h2
  · exact .inr (lt_of_block h4)
/-- Where there is an element, its cells lie in the block. -/
theorem Seg.open (h : Seg w e sz v k (n + 1) xs) : ∃ off cap cur, v = .slice (some ⟨k, off, none⟩) (n + 1) cap ∧ w.heap[k]? = some (.cells cur e (0, 0)) ∧ n + 1 ≤ cap ∧ cap ≤ maxLen ∧ off + cap * sz ≤ cur.size ∧ (∀ j u, xs[j]? = some u → cur[off + j]? = some u) ∧
    (∀ j u, xs[j]? = some u → w.cell? ⟨k, off + j, none⟩ = some u) := by
  obtain ⟨h1, ⟨_, h2⟩ | ⟨off, cap, cur, h3, h4, h5, h6, h7, h8⟩⟩ := h
  · omega
  · refine ⟨off, cap, cur, h3, h4, h5, h6, h7, h8, fun j u hj => ?_⟩
    rw [cell_of_row w k (off + j) cur e (0, 0) h4]
    exact h8 j u hj
/-- The slice without its first element. -/
theorem Seg.tail {off cap : Nat} {cur : Array Value} (hx : xs.length = (n + 1) * sz) (h4 : w.heap[k]? = some (.cells cur e (0, 0))) (h5 : n + 1 ≤ cap) (h6 : cap ≤ maxLen) (h7 : off + cap * sz ≤ cur.size) (h8 : ∀ j u, xs[j]? = some u → cur[off + j]? = some u)
    (A : Nat) (hA : A = off + sz ∨ (cap = 1 ∧ A = off)) : Seg w e sz (.slice (some ⟨k, A, none⟩) n (cap - 1)) k n (xs.drop sz) := by
  have e1 : (n + 1) * sz = n * sz + sz := by rw [Nat.add_mul, Nat.one_mul]
  refine ⟨by rw [List.length_drop, hx, e1]; omega, .inr ⟨A, cap - 1, cur, rfl, h4, by omega, by omega, ?_, fun j u hj => ?_⟩⟩
  · have e2 : cap * sz = (cap - 1) * sz + sz := by
      obtain ⟨m, rfl⟩ : ∃ m, cap = m + 1 := ⟨cap - 1, by omega⟩
      rw [Nat.add_mul, Nat.one_mul]
      simp
    rcases hA with rfl | ⟨rfl, rfl⟩
    · omega
    · omega
  · rw [List.getElem?_drop] at hj
    rcases hA with rfl | ⟨rfl, rfl⟩
    · rw [show off + sz + j = off + (sz + j) by omega]
      exact h8 _ _ hj
    · obtain rfl : n = 0 := by omega
      rw [List.getElem?_eq_none (by rw [hx]; omega)] at hj
      cases hj
end

/-- What is appended: nothing (a nil slice), or m elements whose cells lie at an address. -/
def Srcs (w : World) (x : Value) (m : Nat) (news : List Value) : Prop :=
  (x = .slice none 0 0 ∧ m = 0 ∧ news = []) ∨ ∃ a c, x = .slice (some a) m c ∧ ∀ j u, news[j]? = some u → w.cell? (a.add j) = some u
theorem Seg.srcs {w : World} {e sz : Nat} {v : Value} {k n : Nat} {xs : List Value} (h : Seg w e sz v k n xs) : Srcs w v n xs := by
  obtain ⟨h1, ⟨h2, h3⟩ | ⟨off, cap, cur, h3, h4, h5, h6, h7, h8⟩⟩ := h
  · subst h3
    exact .inl ⟨h2, rfl, List.eq_nil_of_length_eq_zero (by omega)⟩
  · refine .inr ⟨_, _, h3, fun j u hj => ?_⟩
    rw [Addr.add_lit, cell_of_row w k (off + j) cur e (0, 0) h4]
    exact h8 j u hj

section
variable {P : Program} {w : World}
theorem run_append_at (t ty e : TypeId) (i : TypeInfo) (ht : P.underlying t = some (.slice e)) (hi : P.info? e = some i) (g off sLen sCap : Nat) (cur : Array Value) (hg : w.heap[g]? = some (.cells cur e (0, 0)))
    (a : Addr) (m c : Nat) (news : List Value) (hl : news.length = m * i.size) (hnews : ∀ j u, news[j]? = some u → w.cell? (a.add j) = some u) (h1 : ∀ u ∈ news, u.oneCell' = true)
    (hroom : sLen + m ≤ sCap) (hfit : off + sLen * i.size + news.length ≤ cur.size) :
    (Builtin.append_ #[t, t] ty #[.slice (some ⟨g, off, none⟩) sLen sCap, .slice (some a) m c]).run P w =
      .ok (.slice (some ⟨g, off, none⟩) (sLen + m) sCap) (w.setRow g (cur.toList.take (off + sLen * i.size) ++ news ++ cur.toList.drop (off + sLen * i.size + news.length)).toArray) := by
  have hf := run_firstCells_some (P := P) w i.size m a m c news hl hnews
  have hst := run_storeCells_at P g (off + sLen * i.size) e news 0 cur w hg (by simpa using hfit) h1
  simp only [Nat.add_zero] at hst
  simp [Builtin.append_, run_underlying ht, sizeOf, typeInfo, hi, Builtin.lenOf, hroom, hf, Addr.add_lit, hst]
theorem splice_get {cur : List Value} {news : List Value} {s : Nat} (hs : s + news.length ≤ cur.length) (j : Nat) : (cur.take s ++ news ++ cur.drop (s + news.length))[j]? = if j < s then cur[j]? else if j < s + news.length then news[j - s]? else cur[j]? := by
  have l1 : (cur.take s).length = s := by rw [List.length_take]; omega
  have l2 : (cur.take s ++ news).length = s + news.length := by rw [List.length_append, l1]
  by_cases h1 : j < s
  · rw [if_pos h1, List.getElem?_append_left (by omega), List.getElem?_append_left (by omega), List.getElem?_take, if_pos h1]
  · rw [if_neg h1]
    by_cases h2 : j < s + news.length
    · rw [if_pos h2, List.getElem?_append_left (by omega), List.getElem?_append_right (by omega), l1]
    · rw [if_neg h2, List.getElem?_append_right (by omega), l2, List.getElem?_drop]
      congr 1
      omega

theorem run_append_seg (t ty e : TypeId) (i : TypeInfo) (z : Value) (sz bytes : Nat) (ht : P.underlying t = some (.slice e)) (hi : P.info? e = some i) (hz : i.zero = some z)
    (hsize : i.size = sz) (hby : i.bytes = bytes) (hzs : z.cells.size = sz) (hsz : 0 < sz)
    (v : Value) (k n : Nat) (xs : List Value) (hown : Seg w e sz v k n xs)
    (x : Value) (m : Nat) (news : List Value) (hl : news.length = m * sz) (hx : Srcs w x m news) (h1 : ∀ u ∈ news, u.oneCell' = true)
    (h63 : n + m ≤ maxLen) (hbytes : (n + m) * bytes ≤ 140737488355328) :
    ∃ v' w' k', (Builtin.append_ #[t, t] ty #[v, x]).run P w = .ok v' w' ∧ Seg w' e sz v' k' (n + m) (xs ++ news) ∧ Keeps (fun b => b = k ∧ v ≠ .slice none 0 0) w w' ∧ ((v = .slice none 0 0 ∧ v' = .slice none 0 0 ∧ m = 0 ∧ k' = k) ∨ ((k' = k ∧ v ≠ .slice none 0 0 ∨ w.heap.size ≤ k') ∧ k' < w'.heap.size ∧ v' ≠ .slice none 0 0)) := by
  have hlen : (xs ++ news).length = (n + m) * sz := by rw [List.length_append, hown.1, hl, Nat.add_mul]
  rcases hx with ⟨rfl, rfl, rfl⟩ | ⟨a, c, rfl, hnews⟩
  · refine ⟨v, w, k, ?_, by simpa using hown, Keeps.refl _ _, ?_⟩
    · obtain ⟨_, ⟨rfl, rfl⟩ | ⟨off, cap, cur, rfl, h4, h5, _⟩⟩ := hown
      · simp [Builtin.append_, run_underlying ht, sizeOf, typeInfo, hi, Builtin.lenOf, Builtin.firstCells]
      · simp [Builtin.append_, run_underlying ht, sizeOf, typeInfo, hi, Builtin.lenOf, Builtin.firstCells, loadCells, h5, storeCells]
    · obtain ⟨_, ⟨rfl, rfl⟩ | ⟨off, cap, cur, rfl, h4, h5, _⟩⟩ := hown
      · exact .inl ⟨rfl, rfl, rfl, rfl⟩
      · exact .inr ⟨.inl ⟨rfl, by simp⟩, lt_of_block h4, by simp⟩
  · obtain ⟨h2, ⟨rfl, rfl⟩ | ⟨off, cap, cur, rfl, h4, h5, h6, h7, h8⟩⟩ := hown
    · have hx0 : xs = [] := List.eq_nil_of_length_eq_zero (by simpa using h2)
      subst hx0
      obtain ⟨v', w', hr, ho, hg, hnil⟩ := run_append_own (P := P) w w.heap.size t ty e i z sz bytes ht hi hz hsize hby hzs hsz (.slice none 0 0) 0 [] (World.ownsRow_nil _ _ _ _) a m c news hl hnews h1 h63 hbytes (Nat.le_refl _)
      obtain ⟨k', hs, hk⟩ := Seg.of_owns ho k
      refine ⟨v', w', k', hr, hs, Keeps.of_grown hg (by simp [Value.ownBlock]), ?_⟩
      rcases hk with ⟨h, rfl⟩ | ⟨hb, hlt⟩
      · exact .inl ⟨rfl, h, (hnil.1 h).2, rfl⟩
      · by_cases hv : v' = .slice none 0 0
        · subst hv
          obtain ⟨_, h | ⟨_, _, _, h, _⟩⟩ := ho
          · obtain ⟨-, hm⟩ := hnil.1 rfl
            subst hm
            exact absurd (hs.lt) (by
              intro _
              exact (Nat.lt_irrefl _ (Nat.lt_of_lt_of_le hlt (by
                have hw : w' = w := by
                  have hn0 : news = [] := List.eq_nil_of_length_eq_zero (by simpa using hl)
                  subst hn0
                  simp [Builtin.append_, run_underlying ht, sizeOf, typeInfo, hi, Builtin.lenOf, Builtin.firstCells, loadCells, loadCellsFrom] at hr
                  exact hr.symm
                rw [hw]
                exact hb))))
          · cases h
        · exact .inr ⟨.inr hb, hlt, hv⟩
    · by_cases hroom : n + m ≤ cap
      · have e1 : (n + m) * sz ≤ cap * sz := Nat.mul_le_mul_right _ hroom
        have hfit : off + n * sz + news.length ≤ cur.size := by rw [hl]; rw [Nat.add_mul] at e1; omega
        have hr := run_append_at (P := P) t ty e i ht hi k off n cap cur h4 a m c news (by rw [hsize]; exact hl) hnews h1 hroom (by rw [hsize]; exact hfit)
        rw [hsize] at hr
        have hfit' : off + n * sz + news.length ≤ cur.toList.length := by simpa using hfit
        refine ⟨_, _, k, hr, ⟨hlen, .inr ⟨off, cap, _, rfl, setRow_heap w k cur _ e _ h4, hroom, h6, ?_, fun j u hj => ?_⟩⟩, (Keeps.refl _ _).setRow k _ (.inl ⟨rfl, by simp⟩), .inr ⟨.inl ⟨rfl, by simp⟩, ?_, by simp⟩⟩
        · simp only [List.size_toArray, List.length_append, List.length_take, List.length_drop, Array.length_toList]
          omega
        · rw [List.getElem?_toArray, splice_get hfit']
          by_cases c1 : j < xs.length
          · rw [List.getElem?_append_left c1] at hj
            rw [if_pos (by omega)]
            simpa using h8 j u hj
          · rw [List.getElem?_append_right (by omega)] at hj
            have hlt : j - xs.length < news.length := by
              rcases Nat.lt_or_ge (j - xs.length) news.length with h' | h'
              · exact h'
              · rw [List.getElem?_eq_none h'] at hj
                cases hj
            rw [if_neg (by omega), if_pos (by omega), show off + j - (off + n * sz) = j - xs.length by omega]
            exact hj
        · simpa using lt_of_block h4
      · obtain ⟨v', w', hr, ho, hg⟩ := run_append_arg_grows (P := P) w t ty e i z sz bytes ht hi hz hsize hby hzs hsz ⟨k, off, none⟩ n cap xs h2 (fun j u hj => by rw [Addr.add_lit, cell_of_row w k (off + j) cur e (0, 0) h4]; exact h8 j u hj) a m c news hl hnews (by omega) h63 hbytes
        obtain ⟨k', hs, hk⟩ := Seg.of_owns ho k
        refine ⟨v', w', k', hr, hs, Keeps.of_grown hg (by simp), ?_⟩
        rcases hk with ⟨h, rfl⟩ | ⟨hb, hlt⟩
        · subst h
          obtain ⟨_, ⟨_, h⟩ | ⟨_, _, _, h, _⟩⟩ := ho
          · omega
          · cases h
        · refine .inr ⟨.inr hb, hlt, ?_⟩
          intro h
          subst h
          obtain ⟨_, ⟨_, h⟩ | ⟨_, _, _, h, _⟩⟩ := ho
          · omega
          · cases h
theorem exec_append_seg {o : Oper} {a : Act} (s x : Operand) (t : TypeId) (ho : o.op = .call { callee := .builtin .append, args := #[s, x], argTypes := #[t, t] }) (e : TypeId) (i : TypeInfo) (z : Value) (sz bytes : Nat) (ht : P.underlying t = some (.slice e)) (hi : P.info? e = some i) (hz : i.zero = some z)
    (hsize : i.size = sz) (hby : i.bytes = bytes) (hzs : z.cells.size = sz) (hsz : 0 < sz)
    {v : Value} {k n : Nat} {xs : List Value} (hs : a.eval s = v) (hown : Seg w e sz v k n xs)
    {xv : Value} {m : Nat} {news : List Value} (hxv : a.eval x = xv) (hl : news.length = m * sz) (hx : Srcs w xv m news) (h1 : ∀ u ∈ news, u.oneCell' = true)
    (h63 : n + m ≤ maxLen) (hbytes : (n + m) * bytes ≤ 140737488355328) :
    ∃ v' w' k', (execOp a.eval o).run P w = .ok (.value v') w' ∧ Seg w' e sz v' k' (n + m) (xs ++ news) ∧ Keeps (fun b => b = k ∧ v ≠ .slice none 0 0) w w' ∧ ((v = .slice none 0 0 ∧ v' = .slice none 0 0 ∧ m = 0 ∧ k' = k) ∨ ((k' = k ∧ v ≠ .slice none 0 0 ∨ w.heap.size ≤ k') ∧ k' < w'.heap.size ∧ v' ≠ .slice none 0 0)) := by
  obtain ⟨v', w', k', hr, h2⟩ := run_append_seg (P := P) (w := w) t o.type e i z sz bytes ht hi hz hsize hby hzs hsz v k n xs hown xv m news hl hx h1 h63 hbytes
  refine ⟨v', w', k', ?_, h2⟩
  unfold execOp
  simp only [ho, resolve, invoke, builtin, Sem.run_bind, Sem.run_pure, Result.andThen_ok, List.map_toArray, List.map_cons, List.map_nil, hs, hxv, hr]
theorem append_seg {ops : Array Oper} {rest : List Oper} {o : Oper} {a : Act} {Q : Exit → Act → World → Prop} (hgd : o.guard = none) (s x : Operand) (t : TypeId) (ho : o.op = .call { callee := .builtin .append, args := #[s, x], argTypes := #[t, t] }) (e : TypeId) (i : TypeInfo) (z : Value) (sz bytes : Nat) (ht : P.underlying t = some (.slice e)) (hi : P.info? e = some i) (hz : i.zero = some z)
    (hsize : i.size = sz) (hby : i.bytes = bytes) (hzs : z.cells.size = sz) (hsz : 0 < sz)
    {v : Value} {k n : Nat} {xs : List Value} (hs : a.eval s = v) (hown : Seg w e sz v k n xs)
    {xv : Value} {m : Nat} {news : List Value} (hxv : a.eval x = xv) (hl : news.length = m * sz) (hx : Srcs w xv m news) (h1 : ∀ u ∈ news, u.oneCell' = true)
    (h63 : n + m ≤ maxLen) (hbytes : (n + m) * bytes ≤ 140737488355328)
    (h : ∀ v' w' k', Seg w' e sz v' k' (n + m) (xs ++ news) → Keeps (fun b => b = k ∧ v ≠ .slice none 0 0) w w' → ((v = .slice none 0 0 ∧ v' = .slice none 0 0 ∧ m = 0 ∧ k' = k) ∨ ((k' = k ∧ v ≠ .slice none 0 0 ∨ w.heap.size ≤ k') ∧ k' < w'.heap.size ∧ v' ≠ .slice none 0 0)) → wpList P ops Q rest (a.put o.dst v') w') : wpList P ops Q (o :: rest) a w :=
  wpList_plain hgd fun K hK => by
    obtain ⟨v', w', k', hr, h2, h3, h4⟩ := exec_append_seg (w := w) s x t ho e i z sz bytes ht hi hz hsize hby hzs hsz hs hown hxv hl hx h1 h63 hbytes
    unfold Oper.wp
    rw [hr]
    exact hK _ _ (h v' w' k' h2 h3 h4)
end
end Go.Proofs.Ytadilccdipcmnaa
