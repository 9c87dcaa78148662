/- A region whose order the tape draws, with calls that make memory and with stores: one walk in the order of the text serves every order, where each operation yields one value in every world of a class; the class is told which operations have come up. No condition on the program but its mark 'mixedOrders'. -/
import Derived.Test.YtadilccdipcmnaaBase
namespace Go.Proofs.Ytadilccdipcmnaa
open Go Go.RowKit
section
variable {P : Program} {ops : Array Oper} {md : Region.Mode} {C : (Nat → Bool) → World → Prop}

/-- Operation i has come up, too. -/
def mark (g : Nat → Bool) (i : Nat) : Nat → Bool := fun j => if j = i then true else g j
/-- Which have come up. -/
def done (listed : Array Bool) : Nat → Bool := fun j => listed.getD j false
theorem done_set {listed : Array Bool} {i : Nat} (h : listed.getD i true = false) : done (listed.setIfInBounds i true) = mark (done listed) i := by
  have hi : i < listed.size := by
    rcases Nat.lt_or_ge i listed.size with h' | h'
    · exact h'
    · simp [Array.getElem?_eq_none h'] at h
  funext j
  by_cases hj : j = i
  · subst hj; simp [done, mark, hi]
  · simp [done, mark, hj, Array.getElem?_setIfInBounds_ne (Ne.symm hj)]

/-- What an operation's run must be: the value v, in a world of the class. -/
def runsTo (P : Program) (D : World → Prop) (v : Value) : Result Next → Prop
  | .ok (.value u) w' => u = v ∧ D w'
  | .ok .skip w' => v = undef ∧ D w'
  | .ok (.enter f args) w' => Calls P f args w' fun e w'' => e = .returned v ∧ D w''
  | _ => False
/-- Does operation s wait for operation i? -/
def waitsFor (md : Region.Mode) (ops : Array Oper) (s i : Nat) : Bool := ((ops[s]?).map fun o => o.after.any fun e => Region.binds md e && e.on == i).getD false
/-- None that waits for operation i has come up. -/
def Before (md : Region.Mode) (ops : Array Oper) (g : Nat → Bool) (i : Nat) : Prop := ∀ s, waitsFor md ops s i = true → g s = false
/-- Operation i gives v, from whatever world of the class. -/
def Gives (P : Program) (md : Region.Mode) (ops : Array Oper) (C : (Nat → Bool) → World → Prop) (i : Nat) (o : Oper) (v : Value) (a : Act) : Prop :=
  ∀ g w, Before md ops g i → C g w → if Region.wanted o (yielded ops a.tmps) then runsTo P (C (mark g i)) v ((execOp a.eval o).run P w) else v = undef ∧ C (mark g i) w
/-- The walk in the order of the text. -/
def Lex (P : Program) (md : Region.Mode) (ops : Array Oper) (C : (Nat → Bool) → World → Prop) (Q : Array Bool → Act → Prop) : Nat → Array Bool → List Oper → Act → Prop
  | _, listed, [], a => Q listed a
  | k, listed, o :: l, a => ∃ v, Gives P md ops C k o v a ∧ Lex P md ops C Q (k + 1) (listed.setIfInBounds k true) l (a.put o.dst v)
/-- The walk in every order. -/
def Every (P : Program) (md : Region.Mode) (ops : Array Oper) (C : (Nat → Bool) → World → Prop) (Q : Array Bool → Act → Prop) : Nat → Array Bool → Act → Prop
  | 0, listed, a => Region.ready md ops listed = [] ∧ Q listed a
  | n + 1, listed, a => Region.ready md ops listed ≠ [] ∧ ∀ i ∈ Region.ready md ops listed, ∃ o v, ops[i]? = some o ∧ Gives P md ops C i o v a ∧ Every P md ops C Q n (listed.setIfInBounds i true) (a.put o.dst v)

theorem Gives.moved {i : Nat} {o : Oper} {v : Value} {a a' : Act} (h : Gives P md ops C i o v a) (he : execOp a'.eval o = execOp a.eval o) (hw : Region.wanted o (yielded ops a'.tmps) = Region.wanted o (yielded ops a.tmps)) : Gives P md ops C i o v a' := by
  intro g w hb hc
  rw [he, hw]
  exact h g w hb hc

theorem every_first {Q : Array Bool → Act → Prop} {i : Nat} {oi : Oper} {v : Value} (hi : ops[i]? = some oi) (hsel : Region.noSelect ops = true) (n : Nat) :
    ∀ (listed : Array Bool) (a : Act), (∀ j oj, ops[j]? = some oj → j ≠ i → listed.getD j true = false → (∀ e ∈ oj.after, Region.binds md e = true → e.on ≠ i) → oi.apart ops oj = true) →
      i ∈ Region.ready md ops listed → Gives P md ops C i oi v a → Every P md ops C Q n (listed.setIfInBounds i true) (a.put oi.dst v) → Every P md ops C Q (n + 1) listed a := by
  induction n with
  | zero =>
    intro listed a _ hr hy H
    refine ⟨List.ne_nil_of_mem hr, fun j hj => ?_⟩
    by_cases e : j = i
    · subst e
      exact ⟨oi, v, hi, hy, H⟩
    · have h1 := ready_mono hj e
      rw [H.1] at h1
      cases h1
  | succ n ih =>
    intro listed a hfree hr hy H
    refine ⟨List.ne_nil_of_mem hr, fun j hj => ?_⟩
    by_cases e : j = i
    · subst e
      exact ⟨oi, v, hi, hy, H⟩
    · obtain ⟨oj, u, hoj, gj, hn⟩ := H.2 j (ready_mono hj e)
      obtain ⟨hun, oj', hoj', hall⟩ := mem_ready.1 hj
      have hi0 := (mem_ready.1 hr).1
      have hnot : ∀ x ∈ oj.after, Region.binds md x = true → x.on ≠ i := fun x hx hb heq => by
        rw [hoj] at hoj'
        cases hoj'
        have h1 := hall x hx hb
        rw [heq] at h1
        rcases Nat.lt_or_ge i listed.size with h' | h'
        · simp [h'] at hi0 h1
          rw [hi0] at h1
          cases h1
        · simp [Array.getElem?_eq_none h'] at h1
      obtain ⟨p1, p2, p3⟩ := Oper.apart_spec (hfree j oj hoj e hun hnot)
      have si := fun cs b => Region.noSelect_spec hsel i oi cs b hi
      have sj := fun cs b => Region.noSelect_spec hsel j oj cs b hoj
      refine ⟨oj, u, hoj, gj.moved (execOp_put oj sj a oi.dst v p1).symm (wanted_put oj a oi.dst v p1).symm, ?_⟩
      refine ih _ _ (fun k ok hk hki hku hno => hfree k ok hk hki ?_ hno) (ready_mono hr (Ne.symm e)) (hy.moved (execOp_put oi si a oj.dst u p3) (wanted_put oi a oj.dst u p3)) ?_
      · by_cases hjk : j = k
        · subst hjk
          exact hun
        · rwa [getD_set_ne true hjk] at hku
      · rw [Array.setIfInBounds_comm _ _ e, ← Act.put_comm a v u p2]
        exact hn

theorem every_lex {Q : Array Bool → Act → Prop} (hs : Region.noSelect ops = true) : ∀ (l : List Oper) (k : Nat) (listed : Array Bool) (a : Act), (∀ j, l[j]? = ops[k + j]?) →
    Region.lexFrom md ops l.length k listed = true → Lex P md ops C Q k listed l a → Every P md ops C Q l.length listed a
  | [], _, _, _, _, hB, h => ⟨by simpa [Region.lexFrom] using hB, h⟩
  | o :: l, k, listed, a, hl, hB, h => by
    have h0 : ops[k]? = some o := by simpa using (hl 0).symm
    simp only [List.length_cons, Region.lexFrom, Bool.and_eq_true] at hB
    obtain ⟨v, hg, hrest⟩ := h
    exact every_first h0 hs l.length listed a (Region.free_spec h0 hB.1.2) (by simpa using hB.1.1) hg
      (every_lex hs l (k + 1) _ _ (fun j => by have := hl (j + 1); simpa [Nat.add_assoc, Nat.add_comm 1 j] using this) hB.2 hrest)

/-- With an operation, all that it waits for has come up. -/
def Closed (md : Region.Mode) (ops : Array Oper) (listed : Array Bool) : Prop := ∀ s o, ops[s]? = some o → listed.getD s false = true → ∀ e ∈ o.after, Region.binds md e = true → listed.getD e.on false = true
theorem Closed.set {listed : Array Bool} {i : Nat} (h : Closed md ops listed) (hi : i ∈ Region.ready md ops listed) : Closed md ops (listed.setIfInBounds i true) := by
  intro s o ho hs e he hb
  refine getD_set_true ?_
  by_cases hsi : s = i
  · subst hsi
    obtain ⟨_, o', ho', hall⟩ := mem_ready.1 hi
    rw [ho] at ho'
    cases ho'
    exact hall e he hb
  · exact h s o ho (by rwa [getD_set_ne false (Ne.symm hsi)] at hs) e he hb
theorem Closed.before {listed : Array Bool} {i : Nat} (h : Closed md ops listed) (hi : listed.getD i true = false) : Before md ops (done listed) i := by
  intro s hs
  have hi' : listed.getD i false = false := by
    rcases Nat.lt_or_ge i listed.size with h' | h'
    · simpa [h'] using hi
    · simp [Array.getElem?_eq_none h'] at hi
  unfold waitsFor at hs
  cases ho : ops[s]? with
  | none => simp [ho] at hs
  | some o =>
    simp only [ho, Option.map_some, Option.getD_some, Array.any_eq_true'] at hs
    obtain ⟨e, he, hb⟩ := hs
    simp only [Bool.and_eq_true, beq_iff_eq] at hb
    cases hd : done listed s with
    | false => rfl
    | true =>
      have := h s o ho hd e he hb.1
      rw [hb.2, hi'] at this
      cases this

theorem any_of_every {Q : Array Bool → Act → Prop} {Q' : Exit → Act → World → Prop} (hQ : ∀ listed a w, Q listed a → C (done listed) w → Q' .normal a w) : ∀ (n : Nat) (listed : Array Bool) (a : Act) (w : World), Closed md ops listed → C (done listed) w →
    Every P md ops C Q n listed a → wpAny P md ops Q' n listed a w
  | 0, _, _, _, _, hc, h => ⟨h.1, hQ _ _ _ h.2 hc⟩
  | n + 1, listed, a, w, hcl, hc, h => by
    refine ⟨fun h0 => absurd h0 h.1, fun i hi => ?_⟩
    obtain ⟨o, v, ho, hg, hn⟩ := h.2 i hi
    have hset := done_set (mem_ready.1 hi).1
    have hgo := hg _ w (hcl.before (mem_ready.1 hi).1) hc
    rw [← hset] at hgo
    have next : ∀ w', C (done (listed.setIfInBounds i true)) w' → wpAny P md ops Q' n (listed.setIfInBounds i true) (a.put o.dst v) w' := fun w' hw' => any_of_every hQ n _ _ w' (hcl.set hi) hw' hn
    unfold wpOp
    simp only [ho]
    split
    · rename_i hw
      rw [if_pos hw] at hgo
      refine .inl ?_
      unfold Oper.wp
      generalize (execOp a.eval o).run P w = r at *
      cases r with
      | ok x w' =>
        cases x <;> simp only [runsTo] at hgo <;> simp only [Oper.upon]
        · obtain ⟨rfl, hd⟩ := hgo
          exact next _ hd
        · obtain ⟨rfl, hd⟩ := hgo
          exact next _ hd
        · refine hgo.mono fun e w'' ⟨he, hd⟩ => ?_
          subst he
          exact next _ hd
      | halt x w' => simp only [runsTo] at hgo
    · rename_i hw
      rw [if_neg hw] at hgo
      obtain ⟨rfl, hd⟩ := hgo
      exact next _ hd

/-- One walk in the order of the text serves the region. -/
theorem wp_region_drawn {id : Nat} {Q : Exit → Act → World → Prop} {a : Act} {w : World} {l : List Oper} (C : (Nat → Bool) → World → Prop) (hm : P.follows .mixedOrders = true) (hB : Region.lexB .any l.toArray = true) (hC : C (fun _ => false) w.drew)
    (h : Lex P .any l.toArray C (fun listed a' => ∀ w', C (done listed) w' → Q .normal a' w') 0 (Array.replicate l.length false) l a) : (Code.region id l.toArray true).wp P Q a w := by
  simp only [Region.lexB, Bool.and_eq_true] at hB
  refine wp_region_any hm ?_
  have e0 : (fun _ => false : Nat → Bool) = done (Array.replicate l.length false) := by
    funext j
    unfold done
    by_cases hj : j < l.length
    · simp [hj]
    · simp [hj]
  refine any_of_every (C := C) (Q := fun listed a' => ∀ w', C (done listed) w' → Q .normal a' w') (fun _ _ _ hq hc => hq _ hc) _ _ _ _ (fun s o _ hs => by rcases Nat.lt_or_ge s l.length with h' | h' <;> simp [h'] at hs) (by rw [List.size_toArray, ← e0]; exact hC) ?_
  have := every_lex (C := C) (md := .any) hB.1 l 0 (Array.replicate l.length false) a (by simp) (by simpa using hB.2) h
  simpa using this

/-! The steps of the walk -/
theorem lex_nil {Q : Array Bool → Act → Prop} {k : Nat} {listed : Array Bool} {a : Act} (h : Q listed a) : Lex P md ops C Q k listed [] a := h
/-- An operation that yields a value and leaves the world alone. -/
theorem lex_val {Q : Array Bool → Act → Prop} {k : Nat} {listed : Array Bool} {a : Act} {o : Oper} {l : List Oper} {v : Value} (hg : Region.wanted o (yielded ops a.tmps) = true) (hst : ∀ g w, C g w → C (mark g k) w) (hr : ∀ g w, Before md ops g k → C g w → (execOp a.eval o).run P w = .ok (.value v) w)
    (h : Lex P md ops C Q (k + 1) (listed.setIfInBounds k true) l (a.put o.dst v)) : Lex P md ops C Q k listed (o :: l) a :=
  ⟨v, fun g w hb hc => by rw [if_pos hg, hr g w hb hc]; exact ⟨rfl, hst g w hc⟩, h⟩
/-- A store. -/
theorem lex_put {Q : Array Bool → Act → Prop} {k : Nat} {listed : Array Bool} {a : Act} {o : Oper} {l : List Oper} (hg : Region.wanted o (yielded ops a.tmps) = true) (hr : ∀ g w, Before md ops g k → C g w → ∃ w', (execOp a.eval o).run P w = .ok .skip w' ∧ C (mark g k) w')
    (h : Lex P md ops C Q (k + 1) (listed.setIfInBounds k true) l (a.put o.dst undef)) : Lex P md ops C Q k listed (o :: l) a :=
  ⟨undef, fun g w hb hc => by obtain ⟨w', h1, h2⟩ := hr g w hb hc; rw [if_pos hg, h1]; exact ⟨rfl, h2⟩, h⟩
/-- A call. -/
theorem lex_call {Q : Array Bool → Act → Prop} {k : Nat} {listed : Array Bool} {a : Act} {o : Oper} {l : List Oper} {v : Value} {f : FuncId} {args : Array Value} (hg : Region.wanted o (yielded ops a.tmps) = true) (hr : ∀ w, (execOp a.eval o).run P w = .ok (.enter f args) w)
    (hc : ∀ g w, Before md ops g k → C g w → Calls P f args w fun e w' => e = .returned v ∧ C (mark g k) w')
    (h : Lex P md ops C Q (k + 1) (listed.setIfInBounds k true) l (a.put o.dst v)) : Lex P md ops C Q k listed (o :: l) a :=
  ⟨v, fun g w hb hC => by rw [if_pos hg, hr w]; exact hc g w hb hC, h⟩
/-- An operation whose guard says no. -/
theorem lex_skip {Q : Array Bool → Act → Prop} {k : Nat} {listed : Array Bool} {a : Act} {o : Oper} {l : List Oper} (hg : Region.wanted o (yielded ops a.tmps) = false) (hst : ∀ g w, C g w → C (mark g k) w)
    (h : Lex P md ops C Q (k + 1) (listed.setIfInBounds k true) l (a.put o.dst undef)) : Lex P md ops C Q k listed (o :: l) a :=
  ⟨undef, fun g w hb hc => by rw [if_neg (by simp [hg])]; exact ⟨rfl, hst g w hc⟩, h⟩
end

section
variable {P : Program} {o : Oper} {a : Act} {w : World}
theorem exec_move {v : Value} (x : Operand) (ho : o.op = .move x) (hx : a.eval x = v) : (execOp a.eval o).run P w = .ok (.value v) w := by
  simp [execOp, ho, hx]
theorem exec_assign {v : Value} (x : Operand) (ho : o.op = .assign x) (hx : a.eval x = v) : (execOp a.eval o).run P w = .ok (.value v) w := by
  simp [execOp, ho, hx]
theorem exec_extract {v : Value} {vs : List Value} (x : Operand) (i : Nat) (ho : o.op = .extract x i) (hx : a.eval x = .tuple vs.toArray) (hv : vs[i]? = some v) : (execOp a.eval o).run P w = .ok (.value v) w := by
  simp [execOp, ho, hx, Instr.extract, hv]
theorem exec_call {f : FuncId} {args : List Operand} {ts : Array TypeId} {vals : List Value} (hf : ((P.funcs[f]?).map fun fn => (fn.name == "runtime.NumGoroutine", fn.body.isNone)) = some (false, false)) (ho : o.op = .call { callee := .value (.func f), args := args.toArray, argTypes := ts }) (hv : args.map a.eval = vals) :
    (execOp a.eval o).run P w = .ok (.enter f vals.toArray) w := by
  obtain ⟨fn, h1, h2⟩ := Option.map_eq_some_iff.1 hf
  simp only [Prod.mk.injEq] at h2
  have hc : (callFunc f vals.toArray).run P w = .ok (.enter f vals.toArray) w := by
    have h3 : ¬ fn.name = "runtime.NumGoroutine" := by simpa using h2.1
    have h4 : ¬ fn.body = none := fun e => by rw [e] at h2; simp at h2
    simp [callFunc, h1, h3, h4]
  simp [execOp, ho, resolve, hv, Act.eval, Deferred.ofValue, invoke, hc]
theorem exec_pick {v : Value} {b : Bool} (c x y : Operand) (ho : o.op = .pick c x y) (hc : a.eval c = .bool b) (hv : (if b then a.eval x else a.eval y) = v) : (execOp a.eval o).run P w = .ok (.value v) w := by
  simp [execOp, ho, hc, asBool, ← hv]
end

theorem exec_load_row {o : Oper} {a : Act} {w : World} {f : Nat → Bool} {g : Nat} (x : Operand) (ho : o.op = .load 28 x) (hx : a.eval x = .pointer (some ⟨g, 0, none⟩)) (hg : Row w g f) : (execOp a.eval o).run Try.prog w = .ok (.value (.agg (bf f))) w := by
  simp [execOp, ho, hx, Instr.loadAt, Instr.sureAddr, run_row w g hg, Result.andThen]
theorem exec_store_row {o : Oper} {a : Act} {w : World} {f f0 : Nat → Bool} {g : Nat} (x y : Operand) (ho : o.op = .store 28 x y) (hx : a.eval x = .pointer (some ⟨g, 0, none⟩)) (hy : a.eval y = .agg (bf f)) (hg : Row w g f0) : (execOp a.eval o).run Try.prog w = .ok .skip (w.setRow g (bf f)) := by
  simp [execOp, ho, hx, hy, Instr.storeAt, Instr.sureAddr, run_storeVar_row w g 28 28 (bf f0) (bf f) hg (by rw [bf_size]; exact size28) (by rw [bf_size, bf_size]) (bf_one f), Result.andThen]
theorem Row.drewN {w : World} {b : Nat} {f : Nat → Bool} (h : Row w b f) (n : Nat) : Row (w.drewN n) b f := h
theorem Row.drew {w : World} {b : Nat} {f : Nat → Bool} (h : Row w b f) : Row w.drew b f := h
theorem below_drewN {B : Nat} {a w : World} (h : Below B a w) (n : Nat) : Below B a (w.drewN n) := ⟨h.os, h.tape, h.output, h.size, h.block⟩
theorem mixed : Try.prog.follows .mixedOrders = true := by kernel_rfl
end Go.Proofs.Ytadilccdipcmnaa
