/- A region whose order the tape draws, once more: the class is told, at each operation, that all it waits for has come up. No condition on the program but its mark 'mixedOrders'. -/
import Derived.Test.YtadilccdipcmnaaReg4
namespace Go.Proofs.Ytadilccdipcmnaa
open Go Go.RowKit
section
variable {P : Program} {ops : Array Oper} {md : Region.Mode} {C : (Nat → Bool) → World → Prop}

/-- Operation i gives v, from whatever world of the class. -/
def Gives3 (P : Program) (md : Region.Mode) (ops : Array Oper) (C : (Nat → Bool) → World → Prop) (i : Nat) (o : Oper) (v : Value) (a : Act) : Prop :=
  ∀ g w, Now4 md ops g i → C g w → if Region.wanted o (yielded ops a.tmps) then runsTo P (C (mark g i)) v ((execOp a.eval o).run P w) else v = undef ∧ C (mark g i) w
/-- The walk in the order of the text. -/
def Lex3 (P : Program) (md : Region.Mode) (ops : Array Oper) (C : (Nat → Bool) → World → Prop) (Q : Array Bool → Act → Prop) : Nat → Array Bool → List Oper → Act → Prop
  | _, listed, [], a => Q listed a
  | k, listed, o :: l, a => ∃ v, Gives3 P md ops C k o v a ∧ Lex3 P md ops C Q (k + 1) (listed.setIfInBounds k true) l (a.put o.dst v)
/-- The walk in every order. -/
def Every3 (P : Program) (md : Region.Mode) (ops : Array Oper) (C : (Nat → Bool) → World → Prop) (Q : Array Bool → Act → Prop) : Nat → Array Bool → Act → Prop
  | 0, listed, a => Region.ready md ops listed = [] ∧ Q listed a
  | n + 1, listed, a => Region.ready md ops listed ≠ [] ∧ ∀ i ∈ Region.ready md ops listed, ∃ o v, ops[i]? = some o ∧ Gives3 P md ops C i o v a ∧ Every3 P md ops C Q n (listed.setIfInBounds i true) (a.put o.dst v)

theorem Gives3.moved {i : Nat} {o : Oper} {v : Value} {a a' : Act} (h : Gives3 P md ops C i o v a) (he : execOp a'.eval o = execOp a.eval o) (hw : Region.wanted o (yielded ops a'.tmps) = Region.wanted o (yielded ops a.tmps)) : Gives3 P md ops C i o v a' := by
  intro g w hb hc
  rw [he, hw]
  exact h g w hb hc

theorem every_first3 {Q : Array Bool → Act → Prop} {i : Nat} {oi : Oper} {v : Value} (hi : ops[i]? = some oi) (hsel : Region.noSelect ops = true) (n : Nat) :
    ∀ (listed : Array Bool) (a : Act), (∀ j oj, ops[j]? = some oj → j ≠ i → listed.getD j true = false → (∀ e ∈ oj.after, Region.binds md e = true → e.on ≠ i) → oi.apart ops oj = true) →
      i ∈ Region.ready md ops listed → Gives3 P md ops C i oi v a → Every3 P md ops C Q n (listed.setIfInBounds i true) (a.put oi.dst v) → Every3 P md ops C Q (n + 1) listed a := by
  induction n with
  | zero =>
    intro listed a _ hr hy H
    refine ⟨List.ne_nil_of_mem hr, fun j hj => ?_⟩
    by_cases e : j = i
    · subst e
      exact ⟨oi, v, hi, hy, H⟩
    · have h1 := ready_mono hj e
      rw [H.1] at h1
      cases h1
  | succ n ih =>
    intro listed a hfree hr hy H
    refine ⟨List.ne_nil_of_mem hr, fun j hj => ?_⟩
    by_cases e : j = i
    · subst e
      exact ⟨oi, v, hi, hy, H⟩
    · obtain ⟨oj, u, hoj, gj, hn⟩ := H.2 j (ready_mono hj e)
      obtain ⟨hun, oj', hoj', hall⟩ := mem_ready.1 hj
      have hi0 := (mem_ready.1 hr).1
      have hnot : ∀ x ∈ oj.after, Region.binds md x = true → x.on ≠ i := fun x hx hb heq => by
        rw [hoj] at hoj'
        cases hoj'
        have h1 := hall x hx hb
        rw [heq] at h1
        rcases Nat.lt_or_ge i listed.size with h' | h'
        · simp [h'] at hi0 h1
          rw [hi0] at h1
          cases h1
        · simp [Array.getElem?_eq_none h'] at h1
      obtain ⟨p1, p2, p3⟩ := Oper.apart_spec (hfree j oj hoj e hun hnot)
      have si := fun cs b => Region.noSelect_spec hsel i oi cs b hi
      have sj := fun cs b => Region.noSelect_spec hsel j oj cs b hoj
      refine ⟨oj, u, hoj, gj.moved (execOp_put oj sj a oi.dst v p1).symm (wanted_put oj a oi.dst v p1).symm, ?_⟩
      refine ih _ _ (fun k ok hk hki hku hno => hfree k ok hk hki ?_ hno) (ready_mono hr (Ne.symm e)) (hy.moved (execOp_put oi si a oj.dst u p3) (wanted_put oi a oj.dst u p3)) ?_
      · by_cases hjk : j = k
        · subst hjk
          exact hun
        · rwa [getD_set_ne true hjk] at hku
      · rw [Array.setIfInBounds_comm _ _ e, ← Act.put_comm a v u p2]
        exact hn

theorem every_lex3 {Q : Array Bool → Act → Prop} (hs : Region.noSelect ops = true) : ∀ (l : List Oper) (k : Nat) (listed : Array Bool) (a : Act), (∀ j, l[j]? = ops[k + j]?) →
    Region.lexFrom md ops l.length k listed = true → Lex3 P md ops C Q k listed l a → Every3 P md ops C Q l.length listed a
  | [], _, _, _, _, hB, h => ⟨by simpa [Region.lexFrom] using hB, h⟩
  | o :: l, k, listed, a, hl, hB, h => by
    have h0 : ops[k]? = some o := by simpa using (hl 0).symm
    simp only [List.length_cons, Region.lexFrom, Bool.and_eq_true] at hB
    obtain ⟨v, hg, hrest⟩ := h
    exact every_first3 h0 hs l.length listed a (Region.free_spec h0 hB.1.2) (by simpa using hB.1.1) hg
      (every_lex3 hs l (k + 1) _ _ (fun j => by have := hl (j + 1); simpa [Nat.add_assoc, Nat.add_comm 1 j] using this) hB.2 hrest)

theorem any_of_every3 {Q : Array Bool → Act → Prop} {Q' : Exit → Act → World → Prop} (hQ : ∀ listed a w, Q listed a → C (done listed) w → Q' .normal a w) : ∀ (n : Nat) (listed : Array Bool) (a : Act) (w : World), Closed md ops listed → C (done listed) w →
    Every3 P md ops C Q n listed a → wpAny P md ops Q' n listed a w
  | 0, _, _, _, _, hc, h => ⟨h.1, hQ _ _ _ h.2 hc⟩
  | n + 1, listed, a, w, hcl, hc, h => by
    refine ⟨fun h0 => absurd h0 h.1, fun i hi => ?_⟩
    obtain ⟨o, v, ho, hg, hn⟩ := h.2 i hi
    have hset := done_set (mem_ready.1 hi).1
    have hgo := hg _ w (now_ready4 hcl hi) hc
    rw [← hset] at hgo
    have next : ∀ w', C (done (listed.setIfInBounds i true)) w' → wpAny P md ops Q' n (listed.setIfInBounds i true) (a.put o.dst v) w' := fun w' hw' => any_of_every3 hQ n _ _ w' (hcl.set hi) hw' hn
    unfold wpOp
    simp only [ho]
    split
    · rename_i hw
      rw [if_pos hw] at hgo
      refine .inl ?_
      unfold Oper.wp
      generalize (execOp a.eval o).run P w = r at *
      cases r with
      | ok x w' =>
        cases x <;> simp only [runsTo] at hgo <;> simp only [Oper.upon]
        · obtain ⟨rfl, hd⟩ := hgo
          exact next _ hd
        · obtain ⟨rfl, hd⟩ := hgo
          exact next _ hd
        · refine hgo.mono fun e w'' ⟨he, hd⟩ => ?_
          subst he
          exact next _ hd
      | halt x w' => simp only [runsTo] at hgo
    · rename_i hw
      rw [if_neg hw] at hgo
      obtain ⟨rfl, hd⟩ := hgo
      exact next _ hd

/-- One walk in the order of the text serves the region. -/
theorem wp_region_drawn3 {id : Nat} {Q : Exit → Act → World → Prop} {a : Act} {w : World} {l : List Oper} (C : (Nat → Bool) → World → Prop) (hm : P.follows .mixedOrders = true) (hB : Region.lexB .any l.toArray = true) (hC : C (fun _ => false) w.drew)
    (h : Lex3 P .any l.toArray C (fun listed a' => ∀ w', C (done listed) w' → Q .normal a' w') 0 (Array.replicate l.length false) l a) : (Code.region id l.toArray true).wp P Q a w := by
  simp only [Region.lexB, Bool.and_eq_true] at hB
  refine wp_region_any hm ?_
  have e0 : (fun _ => false : Nat → Bool) = done (Array.replicate l.length false) := by
    funext j
    unfold done
    by_cases hj : j < l.length
    · simp [hj]
    · simp [hj]
  refine any_of_every3 (C := C) (Q := fun listed a' => ∀ w', C (done listed) w' → Q .normal a' w') (fun _ _ _ hq hc => hq _ hc) _ _ _ _ (fun s o _ hs => by rcases Nat.lt_or_ge s l.length with h' | h' <;> simp [h'] at hs) (by rw [List.size_toArray, ← e0]; exact hC) ?_
  have := every_lex3 (C := C) (md := .any) hB.1 l 0 (Array.replicate l.length false) a (by simp) (by simpa using hB.2) h
  simpa using this

/-! The steps of the walk -/
theorem lex3_nil {Q : Array Bool → Act → Prop} {k : Nat} {listed : Array Bool} {a : Act} (h : Q listed a) : Lex3 P md ops C Q k listed [] a := h
/-- An operation that yields a value and leaves the world alone. -/
theorem lex3_val {Q : Array Bool → Act → Prop} {k : Nat} {listed : Array Bool} {a : Act} {o : Oper} {l : List Oper} {v : Value} (hg : Region.wanted o (yielded ops a.tmps) = true) (hst : ∀ g w, C g w → C (mark g k) w) (hr : ∀ g w, Now4 md ops g k → C g w → (execOp a.eval o).run P w = .ok (.value v) w)
    (h : Lex3 P md ops C Q (k + 1) (listed.setIfInBounds k true) l (a.put o.dst v)) : Lex3 P md ops C Q k listed (o :: l) a :=
  ⟨v, fun g w hb hc => by rw [if_pos hg, hr g w hb hc]; exact ⟨rfl, hst g w hc⟩, h⟩
/-- A store. -/
theorem lex3_put {Q : Array Bool → Act → Prop} {k : Nat} {listed : Array Bool} {a : Act} {o : Oper} {l : List Oper} (hg : Region.wanted o (yielded ops a.tmps) = true) (hr : ∀ g w, Now4 md ops g k → C g w → ∃ w', (execOp a.eval o).run P w = .ok .skip w' ∧ C (mark g k) w')
    (h : Lex3 P md ops C Q (k + 1) (listed.setIfInBounds k true) l (a.put o.dst undef)) : Lex3 P md ops C Q k listed (o :: l) a :=
  ⟨undef, fun g w hb hc => by obtain ⟨w', h1, h2⟩ := hr g w hb hc; rw [if_pos hg, h1]; exact ⟨rfl, h2⟩, h⟩
/-- A call. -/
theorem lex3_call {Q : Array Bool → Act → Prop} {k : Nat} {listed : Array Bool} {a : Act} {o : Oper} {l : List Oper} {v : Value} {f : FuncId} {args : Array Value} (hg : Region.wanted o (yielded ops a.tmps) = true) (hr : ∀ w, (execOp a.eval o).run P w = .ok (.enter f args) w)
    (hc : ∀ g w, Now4 md ops g k → C g w → Calls P f args w fun e w' => e = .returned v ∧ C (mark g k) w')
    (h : Lex3 P md ops C Q (k + 1) (listed.setIfInBounds k true) l (a.put o.dst v)) : Lex3 P md ops C Q k listed (o :: l) a :=
  ⟨v, fun g w hb hC => by rw [if_pos hg, hr w]; exact hc g w hb hC, h⟩
/-- An operation whose guard says no. -/
theorem lex3_skip {Q : Array Bool → Act → Prop} {k : Nat} {listed : Array Bool} {a : Act} {o : Oper} {l : List Oper} (hg : Region.wanted o (yielded ops a.tmps) = false) (hst : ∀ g w, C g w → C (mark g k) w)
    (h : Lex3 P md ops C Q (k + 1) (listed.setIfInBounds k true) l (a.put o.dst undef)) : Lex3 P md ops C Q k listed (o :: l) a :=
  ⟨undef, fun g w hb hc => by rw [if_neg (by simp [hg])]; exact ⟨rfl, hst g w hc⟩, h⟩
end
end Go.Proofs.Ytadilccdipcmnaa
