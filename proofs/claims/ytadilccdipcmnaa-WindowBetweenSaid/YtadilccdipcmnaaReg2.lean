/- A region whose order the tape draws, one operation of which gives a value that depends on the order (the address of a new variable): one walk in the order of the text, for every such value, serves every order. The values of the other operations are listed ahead. No condition on the program but its mark 'mixedOrders'. -/
import Derived.Test.YtadilccdipcmnaaReg
namespace Go.Proofs.Ytadilccdipcmnaa
open Go Go.RowKit
section
variable {P : Program} {ops : Array Oper} {md : Region.Mode} {C : (Nat → Bool) → Value → World → Prop} {V : Value → Prop} {x : Nat} {val : Nat → Value}

/-- What is known of the loose operation's value: that it is of V, and, once it has come up, which it is. -/
def okay (V : Value → Prop) (mo : Option Value) (m : Value) : Prop := V m ∧ ∀ v, mo = some v → m = v
/-- All that operation s waits for has come up. -/
def Past (md : Region.Mode) (ops : Array Oper) (g : Nat → Bool) (s : Nat) : Prop := ∀ i, waitsFor md ops s i = true → g i = true
/-- Operation i is about to come up. -/
def Now (md : Region.Mode) (ops : Array Oper) (g : Nat → Bool) (i : Nat) : Prop := Before md ops g i ∧ Past md ops g i
theorem now_ready {listed : Array Bool} {i : Nat} (hcl : Closed md ops listed) (hi : i ∈ Region.ready md ops listed) : Now md ops (done listed) i := by
  obtain ⟨h0, o, ho, hall⟩ := mem_ready.1 hi
  refine ⟨hcl.before h0, fun j hj => ?_⟩
  unfold waitsFor at hj
  simp only [ho, Option.map_some, Option.getD_some, Array.any_eq_true'] at hj
  obtain ⟨e, he, hb⟩ := hj
  simp only [Bool.and_eq_true, beq_iff_eq] at hb
  rw [← hb.2]
  exact hall e he hb.1
/-- Operation i gives v, from whatever world of the class. -/
def Gives2 (P : Program) (md : Region.Mode) (ops : Array Oper) (C : (Nat → Bool) → Value → World → Prop) (m : Value) (i : Nat) (o : Oper) (v : Value) (a : Act) : Prop :=
  ∀ g w, Now md ops g i → C g m w → if Region.wanted o (yielded ops a.tmps) then runsTo P (C (mark g i) m) v ((execOp a.eval o).run P w) else v = undef ∧ C (mark g i) m w
/-- The loose operation gives some value. -/
def Loose (P : Program) (md : Region.Mode) (ops : Array Oper) (C : (Nat → Bool) → Value → World → Prop) (V : Value → Prop) (i : Nat) (o : Oper) (a : Act) : Prop :=
  Region.wanted o (yielded ops a.tmps) = true ∧ ∀ g m w, Now md ops g i → C g m w → ∃ v w', (execOp a.eval o).run P w = .ok (.value v) w' ∧ V v ∧ C (mark g i) v w'
/-- What stands after operation i, of either kind. -/
def After2 (P : Program) (md : Region.Mode) (ops : Array Oper) (C : (Nat → Bool) → Value → World → Prop) (V : Value → Prop) (x : Nat) (val : Nat → Value) (mo : Option Value) (i : Nat) (o : Oper) (a : Act) (R : Option Value → Act → Prop) : Prop :=
  if i = x then Loose P md ops C V i o a ∧ ∀ v, V v → R (some v) (a.put o.dst v) else (∀ m, okay V mo m → Gives2 P md ops C m i o (val i) a) ∧ R mo (a.put o.dst (val i))
/-- The walk in the order of the text. -/
def Lex2 (P : Program) (md : Region.Mode) (ops : Array Oper) (C : (Nat → Bool) → Value → World → Prop) (V : Value → Prop) (x : Nat) (val : Nat → Value) (Q : Option Value → Array Bool → Act → Prop) : Option Value → Nat → Array Bool → List Oper → Act → Prop
  | mo, _, listed, [], a => Q mo listed a
  | mo, k, listed, o :: l, a => After2 P md ops C V x val mo k o a fun mo' a' => Lex2 P md ops C V x val Q mo' (k + 1) (listed.setIfInBounds k true) l a'
/-- The walk in every order. -/
def Every2 (P : Program) (md : Region.Mode) (ops : Array Oper) (C : (Nat → Bool) → Value → World → Prop) (V : Value → Prop) (x : Nat) (val : Nat → Value) (Q : Option Value → Array Bool → Act → Prop) : Option Value → Nat → Array Bool → Act → Prop
  | mo, 0, listed, a => Region.ready md ops listed = [] ∧ Q mo listed a
  | mo, n + 1, listed, a => Region.ready md ops listed ≠ [] ∧ ∀ i ∈ Region.ready md ops listed, ∃ o, ops[i]? = some o ∧
      After2 P md ops C V x val mo i o a fun mo' a' => Every2 P md ops C V x val Q mo' n (listed.setIfInBounds i true) a'

theorem Gives2.moved {m : Value} {i : Nat} {o : Oper} {v : Value} {a a' : Act} (h : Gives2 P md ops C m i o v a) (he : execOp a'.eval o = execOp a.eval o) (hw : Region.wanted o (yielded ops a'.tmps) = Region.wanted o (yielded ops a.tmps)) : Gives2 P md ops C m i o v a' := by
  intro g w hb hc
  rw [he, hw]
  exact h g w hb hc
theorem Loose.moved {i : Nat} {o : Oper} {a a' : Act} (h : Loose P md ops C V i o a) (he : execOp a'.eval o = execOp a.eval o) (hw : Region.wanted o (yielded ops a'.tmps) = Region.wanted o (yielded ops a.tmps)) : Loose P md ops C V i o a' := by
  refine ⟨by rw [hw]; exact h.1, fun g m w hb hc => ?_⟩
  rw [he]
  exact h.2 g m w hb hc
theorem After2.swap {mo : Option Value} {i j : Nat} {oi oj : Oper} {a : Act} {R R' : Option Value → Act → Prop} (hij : i ≠ j) (hmo : j = x → mo = none) (H : After2 P md ops C V x val mo i oi a fun mo1 a1 => After2 P md ops C V x val mo1 j oj a1 R)
    (p1 : ∀ d, oi.dst = some d → d ∉ oj.looksAt ops) (p2 : ∀ d, oi.dst = some d → oj.dst ≠ some d) (p3 : ∀ d, oj.dst = some d → d ∉ oi.looksAt ops) (si : ∀ cs b, oi.op ≠ .select cs b) (sj : ∀ cs b, oj.op ≠ .select cs b)
    (hR : ∀ mo' u, After2 P md ops C V x val mo' i oi (a.put oj.dst u) R → R' mo' (a.put oj.dst u)) : After2 P md ops C V x val mo j oj a R' := by
  have e1 : ∀ v, execOp (a.put oi.dst v).eval oj = execOp a.eval oj := fun v => execOp_put oj sj a oi.dst v p1
  have e2 : ∀ v, Region.wanted oj (yielded ops (a.put oi.dst v).tmps) = Region.wanted oj (yielded ops a.tmps) := fun v => wanted_put oj a oi.dst v p1
  have e3 : ∀ u, execOp (a.put oj.dst u).eval oi = execOp a.eval oi := fun u => execOp_put oi si a oj.dst u p3
  have e4 : ∀ u, Region.wanted oi (yielded ops (a.put oj.dst u).tmps) = Region.wanted oi (yielded ops a.tmps) := fun u => wanted_put oi a oj.dst u p3
  have e5 : ∀ v u, (a.put oj.dst u).put oi.dst v = (a.put oi.dst v).put oj.dst u := fun v u => (Act.put_comm a v u p2).symm
  unfold After2 at H ⊢
  dsimp only at H
  by_cases hj : j = x
  · have hi : i ≠ x := fun e => hij (e.trans hj.symm)
    rw [if_neg hi] at H
    rw [if_pos hj] at H ⊢
    obtain ⟨gi, lj, h⟩ := H
    refine ⟨lj.moved (e1 _).symm (e2 _).symm, fun u hu => hR _ u ?_⟩
    unfold After2
    rw [if_neg hi]
    refine ⟨fun m hm => (gi m ⟨hm.1, fun v hv => ?_⟩).moved (e3 u) (e4 u), by rw [e5]; exact h u hu⟩
    rw [hmo hj] at hv
    cases hv
  · rw [if_neg hj]
    by_cases hi : i = x
    · rw [if_pos hi] at H
      obtain ⟨li, h⟩ := H
      refine ⟨fun m hm => ?_, hR _ _ ?_⟩
      · have h0 := h m hm.1
        rw [if_neg hj] at h0
        exact (h0.1 m ⟨hm.1, fun v hv => by cases hv; rfl⟩).moved (e1 _).symm (e2 _).symm
      · unfold After2
        rw [if_pos hi]
        refine ⟨li.moved (e3 _) (e4 _), fun v hv => ?_⟩
        have h1 := h v hv
        rw [if_neg hj] at h1
        rw [e5]
        exact h1.2
    · rw [if_neg hi, if_neg hj] at H
      obtain ⟨gi, gj, h⟩ := H
      refine ⟨fun m hm => (gj m hm).moved (e1 _).symm (e2 _).symm, hR _ _ ?_⟩
      unfold After2
      rw [if_neg hi]
      exact ⟨fun m hm => (gi m hm).moved (e3 _) (e4 _), by rw [e5]; exact h⟩
theorem After2.mono {mo : Option Value} {i : Nat} {o : Oper} {a : Act} {R R' : Option Value → Act → Prop} (H : After2 P md ops C V x val mo i o a R) (hR : ∀ mo' a1, (i ≠ x → mo' = mo) → R mo' a1 → R' mo' a1) : After2 P md ops C V x val mo i o a R' := by
  unfold After2 at H ⊢
  split at H
  · rename_i h
    rw [if_pos h]
    exact ⟨H.1, fun v hv => hR _ _ (fun hn => absurd h hn) (H.2 v hv)⟩
  · rename_i h
    rw [if_neg h]
    exact ⟨H.1, hR _ _ (fun _ => rfl) H.2⟩

theorem every2_first {Q : Option Value → Array Bool → Act → Prop} {i : Nat} {oi : Oper} (hV : ∃ v, V v) (hi : ops[i]? = some oi) (hsel : Region.noSelect ops = true) (n : Nat) :
    ∀ (mo : Option Value) (listed : Array Bool) (a : Act), (listed.getD x true = false → mo = none) → (∀ j oj, ops[j]? = some oj → j ≠ i → listed.getD j true = false → (∀ e ∈ oj.after, Region.binds md e = true → e.on ≠ i) → oi.apart ops oj = true) →
      i ∈ Region.ready md ops listed → After2 P md ops C V x val mo i oi a (fun mo' a1 => Every2 P md ops C V x val Q mo' n (listed.setIfInBounds i true) a1) → Every2 P md ops C V x val Q mo (n + 1) listed a := by
  have hlast : ∀ (mo : Option Value) (a : Act), ∃ mo' v, ∀ R : Option Value → Act → Prop, After2 P md ops C V x val mo i oi a R → R mo' (a.put oi.dst v) := fun mo a => by
    by_cases h : i = x
    · obtain ⟨v0, hv0⟩ := hV
      exact ⟨some v0, v0, fun R H => by unfold After2 at H; rw [if_pos h] at H; exact H.2 v0 hv0⟩
    · exact ⟨mo, val i, fun R H => by unfold After2 at H; rw [if_neg h] at H; exact H.2⟩
  induction n with
  | zero =>
    intro mo listed a _ _ hr H
    refine ⟨List.ne_nil_of_mem hr, fun j hj => ?_⟩
    by_cases e : j = i
    · subst e
      exact ⟨oi, hi, H⟩
    · obtain ⟨mo', v, hv⟩ := hlast mo a
      have h1 := ready_mono hj e
      rw [(hv _ H).1] at h1
      cases h1
  | succ n ih =>
    intro mo listed a hmo hfree hr H
    refine ⟨List.ne_nil_of_mem hr, fun j hj => ?_⟩
    by_cases e : j = i
    · subst e
      exact ⟨oi, hi, H⟩
    · obtain ⟨hun, oj, hoj, hall⟩ := mem_ready.1 hj
      have hi0 := (mem_ready.1 hr).1
      have hnot : ∀ y ∈ oj.after, Region.binds md y = true → y.on ≠ i := fun y hy hb heq => by
        have h1 := hall y hy hb
        rw [heq] at h1
        rcases Nat.lt_or_ge i listed.size with h' | h'
        · simp [h'] at hi0 h1
          rw [hi0] at h1
          cases h1
        · simp [Array.getElem?_eq_none h'] at h1
      obtain ⟨p1, p2, p3⟩ := Oper.apart_spec (hfree j oj hoj e hun hnot)
      have si := fun cs b => Region.noSelect_spec hsel i oi cs b hi
      have sj := fun cs b => Region.noSelect_spec hsel j oj cs b hoj
      have H2 : After2 P md ops C V x val mo i oi a fun mo1 a1 => After2 P md ops C V x val mo1 j oj a1 (fun mo2 a2 => Every2 P md ops C V x val Q mo2 n ((listed.setIfInBounds j true).setIfInBounds i true) a2) := by
        refine H.mono fun mo1 a1 _ h1 => ?_
        obtain ⟨oj', hoj', hh⟩ := h1.2 j (ready_mono hj e)
        rw [hoj] at hoj'
        cases hoj'
        rw [Array.setIfInBounds_comm _ _ (Ne.symm e)] at hh
        exact hh
      refine ⟨oj, hoj, ?_⟩
      have hsw : After2 P md ops C V x val mo j oj a (fun mo' a' => After2 P md ops C V x val mo' i oi a' (fun mo2 a2 => Every2 P md ops C V x val Q mo2 n ((listed.setIfInBounds j true).setIfInBounds i true) a2)) :=
        After2.swap (Ne.symm e) (fun hjx => hmo (by rw [← hjx]; exact hun)) H2 p1 p2 p3 si sj fun mo' u hu => hu
      refine hsw.mono fun mo' a' hmo' hu => ?_
      refine ih _ _ _ (fun hx => ?_) (fun k ok hk hki hku hno => hfree k ok hk hki ?_ hno) (ready_mono hr (Ne.symm e)) hu
      · by_cases hjx : j = x
        · subst hjx
          rcases Nat.lt_or_ge j listed.size with h' | h'
          · simp [h'] at hx
          · simp [Array.getElem?_eq_none h'] at hun
        · rw [hmo' hjx]
          refine hmo ?_
          rwa [getD_set_ne true hjx] at hx
      · by_cases hjk : j = k
        · subst hjk
          exact hun
        · rwa [getD_set_ne true hjk] at hku

theorem every2_lex {Q : Option Value → Array Bool → Act → Prop} (hV : ∃ v, V v) (hs : Region.noSelect ops = true) : ∀ (l : List Oper) (mo : Option Value) (k : Nat) (listed : Array Bool) (a : Act), (listed.getD x true = false → mo = none) → (∀ j, l[j]? = ops[k + j]?) →
    Region.lexFrom md ops l.length k listed = true → Lex2 P md ops C V x val Q mo k listed l a → Every2 P md ops C V x val Q mo l.length listed a
  | [], _, _, _, _, _, _, hB, h => ⟨by simpa [Region.lexFrom] using hB, h⟩
  | o :: l, mo, k, listed, a, hmo, hl, hB, h => by
    have h0 : ops[k]? = some o := by simpa using (hl 0).symm
    simp only [List.length_cons, Region.lexFrom, Bool.and_eq_true] at hB
    have hk : k ∈ Region.ready md ops listed := by simpa using hB.1.1
    have ha : After2 P md ops C V x val mo k o a (fun mo' a1 => Lex2 P md ops C V x val Q mo' (k + 1) (listed.setIfInBounds k true) l a1) := h
    refine every2_first hV h0 hs l.length mo listed a hmo (Region.free_spec h0 hB.1.2) hk (ha.mono fun mo' a1 hm h1 => ?_)
    refine every2_lex hV hs l mo' (k + 1) _ _ (fun hx => ?_) (fun j => by have := hl (j + 1); simpa [Nat.add_assoc, Nat.add_comm 1 j] using this) hB.2 h1
    by_cases hkx : k = x
    · subst hkx
      have hun := (mem_ready.1 hk).1
      rcases Nat.lt_or_ge k listed.size with h' | h'
      · simp [h'] at hx
      · simp [Array.getElem?_eq_none h'] at hun
    · rw [hm hkx]
      refine hmo ?_
      rwa [getD_set_ne true hkx] at hx

theorem any_of_every2 {Q : Option Value → Array Bool → Act → Prop} {Q' : Exit → Act → World → Prop} (hQ : ∀ mo listed a m w, Q mo listed a → okay V mo m → C (done listed) m w → Q' .normal a w) : ∀ (n : Nat) (mo : Option Value) (listed : Array Bool) (a : Act) (m : Value) (w : World), Closed md ops listed → okay V mo m → C (done listed) m w →
    Every2 P md ops C V x val Q mo n listed a → wpAny P md ops Q' n listed a w
  | 0, _, _, _, _, _, _, hm, hc, h => ⟨h.1, hQ _ _ _ _ _ h.2 hm hc⟩
  | n + 1, mo, listed, a, m, w, hcl, hm, hc, h => by
    refine ⟨fun h0 => absurd h0 h.1, fun i hi => ?_⟩
    obtain ⟨o, ho, hgn⟩ := h.2 i hi
    have hset := done_set (mem_ready.1 hi).1
    have next : ∀ mo' u m' w', okay V mo' m' → C (done (listed.setIfInBounds i true)) m' w' → Every2 P md ops C V x val Q mo' n (listed.setIfInBounds i true) (a.put o.dst u) → wpAny P md ops Q' n (listed.setIfInBounds i true) (a.put o.dst u) w' :=
      fun mo' u m' w' hm' hw' hn => any_of_every2 hQ n mo' _ _ m' w' (hcl.set hi) hm' hw' hn
    unfold wpOp
    simp only [ho]
    unfold After2 at hgn
    by_cases hx : i = x
    · rw [if_pos hx] at hgn
      obtain ⟨hl, hn⟩ := hgn
      rw [if_pos hl.1]
      obtain ⟨v, w', hr, hv, hC⟩ := hl.2 _ m w (now_ready hcl hi) hc
      rw [← hset] at hC
      refine .inl ?_
      unfold Oper.wp
      rw [hr]
      exact next (some v) v v w' ⟨hv, fun u hu => by cases hu; rfl⟩ hC (hn v hv)
    · rw [if_neg hx] at hgn
      obtain ⟨hg, hn⟩ := hgn
      have hgo := hg m hm _ w (now_ready hcl hi) hc
      rw [← hset] at hgo
      split
      · rename_i hw
        rw [if_pos hw] at hgo
        refine .inl ?_
        unfold Oper.wp
        generalize (execOp a.eval o).run P w = r at *
        cases r with
        | ok y w' =>
          cases y <;> simp only [runsTo] at hgo <;> simp only [Oper.upon]
          · obtain ⟨rfl, hd⟩ := hgo
            exact next _ _ _ _ hm hd hn
          · obtain ⟨he, hd⟩ := hgo
            rw [he] at hn
            exact next _ _ _ _ hm hd hn
          · refine hgo.mono fun e w'' ⟨he, hd⟩ => ?_
            subst he
            exact next _ _ _ _ hm hd hn
        | halt y w' => simp only [runsTo] at hgo
      · rename_i hw
        rw [if_neg hw] at hgo
        obtain ⟨he, hd⟩ := hgo
        rw [he] at hn
        exact next _ _ _ _ hm hd hn

/-- One walk in the order of the text serves the region. -/
theorem wp_region_loose {id : Nat} {Q : Exit → Act → World → Prop} {a : Act} {w : World} {l : List Oper} (C : (Nat → Bool) → Value → World → Prop) (V : Value → Prop) (x : Nat) (val : Nat → Value) (m0 : Value) (hV : V m0) (hm : P.follows .mixedOrders = true) (hB : Region.lexB .any l.toArray = true) (hC : C (fun _ => false) m0 w.drew)
    (h : Lex2 P .any l.toArray C V x val (fun mo listed a' => ∀ m w', okay V mo m → C (done listed) m w' → Q .normal a' w') none 0 (Array.replicate l.length false) l a) : (Code.region id l.toArray true).wp P Q a w := by
  simp only [Region.lexB, Bool.and_eq_true] at hB
  refine wp_region_any hm ?_
  have e0 : (fun _ => false : Nat → Bool) = done (Array.replicate l.length false) := by
    funext j
    unfold done
    by_cases hj : j < l.length
    · simp [hj]
    · simp [hj]
  refine any_of_every2 (C := C) (V := V) (x := x) (val := val) (Q := fun mo listed a' => ∀ m w', okay V mo m → C (done listed) m w' → Q .normal a' w') (fun _ _ _ _ _ hq hm hc => hq _ _ hm hc) _ none _ _ m0 _ (fun s o _ hs => by rcases Nat.lt_or_ge s l.length with h' | h' <;> simp [h'] at hs) ⟨hV, fun v hv => by cases hv⟩ (by rw [List.size_toArray, ← e0]; exact hC) ?_
  have := every2_lex (C := C) (V := V) (x := x) (val := val) (md := .any) ⟨m0, hV⟩ hB.1 l none 0 (Array.replicate l.length false) a (fun _ => rfl) (by simp) (by simpa using hB.2) h
  simpa using this

/-! The steps of the walk -/
theorem lex2_nil {Q : Option Value → Array Bool → Act → Prop} {mo : Option Value} {k : Nat} {listed : Array Bool} {a : Act} (h : Q mo listed a) : Lex2 P md ops C V x val Q mo k listed [] a := h
theorem lex2_val {Q : Option Value → Array Bool → Act → Prop} {mo : Option Value} {k : Nat} {listed : Array Bool} {a : Act} {o : Oper} {l : List Oper} {v : Value} (hk : k ≠ x) (hv : val k = v) (hg : Region.wanted o (yielded ops a.tmps) = true) (hst : ∀ g m w, C g m w → C (mark g k) m w) (hr : ∀ g m w, Now md ops g k → okay V mo m → C g m w → (execOp a.eval o).run P w = .ok (.value v) w)
    (h : Lex2 P md ops C V x val Q mo (k + 1) (listed.setIfInBounds k true) l (a.put o.dst v)) : Lex2 P md ops C V x val Q mo k listed (o :: l) a := by
  subst hv
  unfold Lex2 After2
  rw [if_neg hk]
  exact ⟨fun m hm g w hb hc => by rw [if_pos hg, hr g m w hb hm hc]; exact ⟨rfl, hst g m w hc⟩, h⟩
theorem lex2_put {Q : Option Value → Array Bool → Act → Prop} {mo : Option Value} {k : Nat} {listed : Array Bool} {a : Act} {o : Oper} {l : List Oper} (hk : k ≠ x) (hv : val k = undef) (hg : Region.wanted o (yielded ops a.tmps) = true) (hr : ∀ g m w, Now md ops g k → okay V mo m → C g m w → ∃ w', (execOp a.eval o).run P w = .ok .skip w' ∧ C (mark g k) m w')
    (h : Lex2 P md ops C V x val Q mo (k + 1) (listed.setIfInBounds k true) l (a.put o.dst undef)) : Lex2 P md ops C V x val Q mo k listed (o :: l) a := by
  unfold Lex2 After2
  rw [if_neg hk, hv]
  exact ⟨fun m hm g w hb hc => by obtain ⟨w', h1, h2⟩ := hr g m w hb hm hc; rw [if_pos hg, h1]; exact ⟨rfl, h2⟩, h⟩
theorem lex2_call {Q : Option Value → Array Bool → Act → Prop} {mo : Option Value} {k : Nat} {listed : Array Bool} {a : Act} {o : Oper} {l : List Oper} {v : Value} {f : FuncId} {args : Array Value} (hk : k ≠ x) (hv : val k = v) (hg : Region.wanted o (yielded ops a.tmps) = true) (hr : ∀ w, (execOp a.eval o).run P w = .ok (.enter f args) w)
    (hc : ∀ g m w, Now md ops g k → okay V mo m → C g m w → Calls P f args w fun e w' => e = .returned v ∧ C (mark g k) m w')
    (h : Lex2 P md ops C V x val Q mo (k + 1) (listed.setIfInBounds k true) l (a.put o.dst v)) : Lex2 P md ops C V x val Q mo k listed (o :: l) a := by
  subst hv
  unfold Lex2 After2
  rw [if_neg hk]
  exact ⟨fun m hm g w hb hC => by rw [if_pos hg, hr w]; exact hc g m w hb hm hC, h⟩
/-- The loose operation. -/
theorem lex2_new {Q : Option Value → Array Bool → Act → Prop} {mo : Option Value} {k : Nat} {listed : Array Bool} {a : Act} {o : Oper} {l : List Oper} (hk : k = x) (hg : Region.wanted o (yielded ops a.tmps) = true)
    (hr : ∀ g m w, Now md ops g k → C g m w → ∃ v w', (execOp a.eval o).run P w = .ok (.value v) w' ∧ V v ∧ C (mark g k) v w')
    (h : ∀ v, V v → Lex2 P md ops C V x val Q (some v) (k + 1) (listed.setIfInBounds k true) l (a.put o.dst v)) : Lex2 P md ops C V x val Q mo k listed (o :: l) a := by
  unfold Lex2 After2
  rw [if_pos hk]
  exact ⟨⟨hg, hr⟩, h⟩
end
end Go.Proofs.Ytadilccdipcmnaa
