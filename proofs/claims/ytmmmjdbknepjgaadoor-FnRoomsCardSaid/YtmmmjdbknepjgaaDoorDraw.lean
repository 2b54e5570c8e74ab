/- Regions whose order is drawn. -/
import Derived.Test.YtmmmjdbknepjgaaDoorGc
namespace Go.AW
open Go
set_option linter.unusedVariables false
set_option linter.unusedSimpArgs false

/-! A region that draws its order. -/

def hasEdge (o : Oper) (j : Nat) : Bool := o.after.toList.any fun e => Region.binds .any e && Nat.beq e.on j
def dstAt (ops : Array Oper) (j : Nat) : Option Tmp := (ops[j]?).bind (·.dst)
def isDst (ops : Array Oper) (j : Nat) (t : Tmp) : Bool := match dstAt ops j with | some d => Nat.beq d t | none => false

/-- What stands before an operation, near or far. -/
def reaches (ops : Array Oper) : Nat → Oper → Nat → Bool
  | 0, _, _ => false
  | n + 1, o, j => hasEdge o j || o.after.toList.any fun e => Region.binds .any e && (match ops[e.on]? with | some p => reaches ops n p j | none => false)
inductive Reach (ops : Array Oper) : Oper → Nat → Prop where
  | edge {o : Oper} {j : Nat} {e : Edge} (he : e ∈ o.after) (hb : Region.binds .any e = true) (hj : e.on = j) : Reach ops o j
  | step {o p : Oper} {j : Nat} {e : Edge} (he : e ∈ o.after) (hb : Region.binds .any e = true) (hp : ops[e.on]? = some p) (h : Reach ops p j) : Reach ops o j

/-- An operation that looks at no memory and may come up late: it only takes a part out of a tuple. -/
def inertB (ops : Array Oper) (m i : Nat) : Bool := Nat.blt i m && (match ops[i]? with
  | some o => (match o.op with | .extract _ _ => true | _ => false) && o.guard.isNone && ((List.range ops.size).all fun j => Nat.beq j i || (match ops[j]? with | some oj => hasEdge oj i || hasEdge o j || o.apart ops oj | none => true))
  | none => false)

/-- The orders that a region may draw, looked at once: its first m operations in any order, the others one behind the other. -/
def drawOk (ops : Array Oper) (m : Nat) : Bool := Region.noSelect ops &&
  (List.range ops.size).all fun i => match ops[i]? with
    | none => true
    | some o =>
      (o.after.toList.all fun e => !Region.binds .any e || Nat.blt e.on i) &&
      (bif Nat.blt i m then (o.looksAt ops).all fun t => (List.range m).all fun j => !isDst ops j t || (Nat.blt j i && hasEdge o j)
       else (List.range i).all fun j => reaches ops 40 o j || inertB ops m j) &&
      (match o.dst with
       | none => true
       | some d => (List.range ops.size).all fun j => Nat.beq j i || !isDst ops j d) &&
      o.op.operands.toList.all okX

theorem hasEdge_spec {o : Oper} {j : Nat} (h : hasEdge o j = true) : ∃ e ∈ o.after, Region.binds .any e = true ∧ e.on = j := by
  unfold hasEdge at h
  obtain ⟨e, he, hb⟩ := List.any_eq_true.1 h
  simp only [Bool.and_eq_true] at hb
  exact ⟨e, by simpa using he, hb.1, Nat.eq_of_beq_eq_true hb.2⟩

theorem reaches_spec {ops : Array Oper} : ∀ (n : Nat) (o : Oper) (j : Nat), reaches ops n o j = true → Reach ops o j := by
  intro n
  induction n with
  | zero => intro o j h; cases h
  | succ n ih =>
    intro o j h
    unfold reaches at h
    rw [Bool.or_eq_true] at h
    rcases h with h | h
    · obtain ⟨e, he, hb, hj⟩ := hasEdge_spec h
      exact .edge he hb hj
    · obtain ⟨e, he, hb⟩ := List.any_eq_true.1 h
      rw [Bool.and_eq_true] at hb
      cases hp : ops[e.on]? with
      | none => rw [hp] at hb; cases hb.2
      | some p => rw [hp] at hb; exact .step (by simpa using he) hb.1 hp (ih p j hb.2)

structure DrawSpec (ops : Array Oper) (m : Nat) : Prop where
  back : ∀ (i : Nat) (o : Oper), ops[i]? = some o → ∀ e ∈ o.after, Region.binds .any e = true → e.on < i
  early : ∀ (i : Nat) (o : Oper), ops[i]? = some o → i < m → ∀ t ∈ o.looksAt ops, ∀ j, j < m → dstAt ops j = some t → j < i ∧ ∃ e ∈ o.after, Region.binds .any e = true ∧ e.on = j
  late : ∀ (i : Nat) (o : Oper), ops[i]? = some o → m ≤ i → ∀ j, j < i → inertB ops m j = true ∨ Reach ops o j
  nosel : Region.noSelect ops = true
  uniq : ∀ i j d, dstAt ops i = some d → dstAt ops j = some d → i = j
  ok : ∀ (i : Nat) (o : Oper), ops[i]? = some o → ∀ x ∈ o.op.operands, okX x = true

theorem dstAt_lt {ops : Array Oper} {j : Nat} {d : Tmp} (h : dstAt ops j = some d) : j < ops.size := by
  unfold dstAt at h
  cases e : ops[j]? with
  | none => rw [e] at h; cases h
  | some o => exact (Array.getElem?_eq_some_iff.1 e).1

theorem isDst_of {ops : Array Oper} {j : Nat} {d : Tmp} (h : dstAt ops j = some d) : isDst ops j d = true := by
  unfold isDst; rw [h]; exact Nat.beq_refl d

theorem drawOk_spec {ops : Array Oper} {m : Nat} (h : drawOk ops m = true) : DrawSpec ops m := by
  unfold drawOk at h
  rw [Bool.and_eq_true] at h
  have hns := h.1
  replace h := h.2
  rw [List.all_eq_true] at h
  have key : ∀ i o, ops[i]? = some o → _ := fun i o ho => by
    have := h i (by rw [List.mem_range]; exact (Array.getElem?_eq_some_iff.1 ho).1)
    rw [ho] at this
    simp only [Bool.and_eq_true] at this
    exact this
  refine ⟨fun i o ho e he hb => ?_, fun i o ho him t ht j hjm hj => ?_, fun i o ho hmi j hj => ?_, hns, fun i j d hi hj => ?_, fun i o ho x hx => ?_⟩
  · have h1 := (key i o ho).1.1.1
    rw [List.all_eq_true] at h1
    have := h1 e (by simpa using he)
    rw [hb] at this
    simpa [Nat.blt_eq] using this
  · have h1 := (key i o ho).1.1.2
    rw [show Nat.blt i m = true from by simpa [Nat.blt_eq] using him] at h1
    simp only [cond_true] at h1
    rw [List.all_eq_true] at h1
    have h2 := h1 t ht
    rw [List.all_eq_true] at h2
    have h3 := h2 j (by rw [List.mem_range]; exact hjm)
    rw [isDst_of hj] at h3
    simp only [Bool.not_true, Bool.false_or, Bool.and_eq_true] at h3
    exact ⟨by simpa [Nat.blt_eq] using h3.1, hasEdge_spec h3.2⟩
  · have h1 := (key i o ho).1.1.2
    have hf : Nat.blt i m = false := by
      cases e : Nat.blt i m
      · rfl
      · exact absurd (show i < m by simpa [Nat.blt_eq] using e) (by omega)
    rw [hf] at h1
    simp only [cond_false] at h1
    rw [List.all_eq_true] at h1
    have h2 := h1 j (by rw [List.mem_range]; exact hj)
    rw [Bool.or_eq_true] at h2
    rcases h2 with h2 | h2
    · exact .inr (reaches_spec 40 o j h2)
    · exact .inl h2
  · cases ho : ops[i]? with
    | none => unfold dstAt at hi; rw [ho] at hi; cases hi
    | some o =>
      have h1 := (key i o ho).1.2
      have hd : o.dst = some d := by unfold dstAt at hi; rw [ho] at hi; exact hi
      rw [hd] at h1
      simp only at h1
      rw [List.all_eq_true] at h1
      have h2 := h1 j (by rw [List.mem_range]; exact dstAt_lt hj)
      rw [isDst_of hj] at h2
      simp only [Bool.not_true, Bool.or_false] at h2
      exact (Nat.eq_of_beq_eq_true h2).symm
  · have h1 := (key i o ho).2
    rw [List.all_eq_true] at h1
    exact h1 x (by simpa using hx)

theorem inertB_lt {ops : Array Oper} {m i : Nat} (h : inertB ops m i = true) : i < m := by
  unfold inertB at h
  rw [Bool.and_eq_true] at h
  simpa [Nat.blt_eq] using h.1
theorem inertB_spec {ops : Array Oper} {m i : Nat} (h : inertB ops m i = true) :
    ∃ o, ops[i]? = some o ∧ (∃ x k, o.op = .extract x k) ∧ o.guard = none ∧ ∀ (j : Nat) (oj : Oper), ops[j]? = some oj → j ≠ i → (∀ e ∈ oj.after, Region.binds .any e = true → e.on ≠ i) → (∀ e ∈ o.after, Region.binds .any e = true → e.on ≠ j) → o.apart ops oj = true := by
  unfold inertB at h
  rw [Bool.and_eq_true] at h
  cases ho : ops[i]? with
  | none => rw [ho] at h; cases h.2
  | some o =>
    rw [ho] at h
    have h2 := h.2
    simp only [Bool.and_eq_true] at h2
    obtain ⟨⟨h3, h4⟩, h5⟩ := h2
    refine ⟨o, rfl, ?_, by cases hg : o.guard with | none => rfl | some _ => (rw [hg] at h4; cases h4), fun j oj hj hji hno hno2 => ?_⟩
    · cases hop : o.op <;> rw [hop] at h3 <;> first | exact ⟨_, _, rfl⟩ | cases h3
    · rw [List.all_eq_true] at h5
      have h6 := h5 j (by rw [List.mem_range]; exact (Array.getElem?_eq_some_iff.1 hj).1)
      rw [hj, beq_ne hji, Bool.false_or] at h6
      simp only [Bool.or_eq_true] at h6
      rcases h6 with (h6 | h6) | h6
      · obtain ⟨e, he, hb, hon⟩ := hasEdge_spec h6
        exact absurd hon (hno e he hb)
      · obtain ⟨e, he, hb, hon⟩ := hasEdge_spec h6
        exact absurd hon (hno2 e he hb)
      · exact h6

/-- Such an operation yields its value in whatever world. -/
theorem inert_yields {P : Program} {ops : Array Oper} {i : Nat} {o : Oper} {K : Act → World → Prop} {a : Act} {w : World} (ho : ops[i]? = some o) (hop : ∃ x k, o.op = .extract x k) (hg : o.guard = none)
    (h : wpOp P ops (fun _ _ _ => False) i K a w) : ∃ v, Yields P ops o v a ∧ K (a.put o.dst v) w := by
  unfold wpOp at h
  simp only [ho] at h
  have hw : Region.wanted o (yielded ops a.tmps) = true := by unfold Region.wanted; rw [hg]
  rw [if_pos hw] at h
  obtain ⟨x, k, e⟩ := hop
  rcases h with h | ⟨_, hl⟩
  · unfold Oper.wp at h
    have hrun : ∀ w, (execOp a.eval o).run P w = ((Instr.extract (a.eval x) k).run P w).andThen fun v w' => .ok (.value v) w' := by
      intro w
      simp [execOp, e, Sem.run_bind, Sem.run_pure]
    rw [hrun] at h
    unfold Instr.extract at h hrun
    split at h
    · rename_i vs hx
      split at h
      · rename_i v hv
        refine ⟨v, .inl ⟨hw, fun w1 => ?_⟩, ?_⟩
        · rw [hrun, hx]; simp [hv, Sem.run_pure]
        · simpa [Sem.run_pure, Oper.upon] using h
      · simp [stuck, Oper.upon, Result.andThen, go_sem] at h
    · simp [stuck, Oper.upon, Result.andThen, go_sem] at h
  · obtain ⟨_, _, hl⟩ := hl; exact hl.elim

/-- What one of the early operations does: carried out (its guard holds), or passed over. -/
def EOp (P : Program) (ops : Array Oper) (o : Oper) (fr : AFr) (H : AHeap) (v : Value) (H' : AHeap) : Prop :=
  (o.dst.all (fun d => Nat.blt d fr.n) = true) ∧
  ((match o.guard with
    | none => True
    | some (j, want) => ∃ d, dstAt ops j = some d ∧ fr.get d = .bool want) ∧ AOd P o fr.ev H v H' ∧ Same H.next H H' ∧ H.next ≤ H'.next ∨
   ∃ j want d, o.guard = some (j, want) ∧ dstAt ops j = some d ∧ (fr.get d = .bool (!want) ∨ fr.get d = undef) ∧ v = undef ∧ H' = H)

/-- The early operations, in the text's order. -/
inductive Tr (P : Program) (ops : Array Oper) : Nat → AFr → AHeap → Nat → AFr → AHeap → Prop where
  | nil {i : Nat} {fr : AFr} {H : AHeap} : Tr P ops i fr H i fr H
  | step {i m : Nat} {fr fr' : AFr} {H H1 H' : AHeap} {o : Oper} {v : Value} (ho : ops[i]? = some o) (h : EOp P ops o fr H v H1) (hr : Tr P ops (i + 1) (fr.putO o.dst v) H1 m fr' H') :
      Tr P ops i fr H m fr' H'

theorem Tr.le {P : Program} {ops : Array Oper} {i m : Nat} {fr fr' : AFr} {H H' : AHeap} (h : Tr P ops i fr H m fr' H') : i ≤ m := by
  induction h with
  | nil => exact Nat.le_refl _
  | step _ _ _ ih => omega

theorem Tr.funs {P : Program} {ops : Array Oper} {i m : Nat} {fr fr' : AFr} {H H' : AHeap} (h : Tr P ops i fr H m fr' H') :
    ∃ (F : Nat → AFr) (G : Nat → AHeap) (V : Nat → Value), F i = fr ∧ G i = H ∧ F m = fr' ∧ G m = H' ∧
      ∀ j, i ≤ j → j < m → ∃ o, ops[j]? = some o ∧ F (j + 1) = (F j).putO o.dst (V j) ∧ EOp P ops o (F j) (G j) (V j) (G (j + 1)) := by
  induction h with
  | @nil i fr H => exact ⟨fun _ => fr, fun _ => H, fun _ => undef, rfl, rfl, rfl, rfl, fun j h1 h2 => by omega⟩
  | @step i m fr fr' H H1 H' o v ho h hr ih =>
    obtain ⟨F, G, V, h1, h2, h3, h4, h5⟩ := ih
    have hle := hr.le
    refine ⟨fun j => if j = i then fr else F j, fun j => if j = i then H else G j, fun j => if j = i then v else V j, by simp, by simp, by simp [show m ≠ i by omega, h3], by simp [show m ≠ i by omega, h4], ?_⟩
    intro j hj1 hj2
    by_cases e : j = i
    · subst e
      exact ⟨o, ho, by simp [h1], by simp [h2]; exact h⟩
    · obtain ⟨o', g1, g2, g3⟩ := h5 j (by omega) hj2
      refine ⟨o', g1, ?_, ?_⟩
      · simp only [if_neg e, if_neg (show j + 1 ≠ i by omega)]; exact g2
      · simp only [if_neg e, if_neg (show j + 1 ≠ i by omega)]; exact g3

theorem EOp.same {P : Program} {ops : Array Oper} {o : Oper} {fr : AFr} {H H' : AHeap} {v : Value} (h : EOp P ops o fr H v H') : Same H.next H H' ∧ H.next ≤ H'.next := by
  rcases h.2 with ⟨_, _, h1, h2⟩ | ⟨_, _, _, _, _, _, _, rfl⟩
  · exact ⟨h1, h2⟩
  · exact ⟨Same.refl _ _, Nat.le_refl _⟩

def cut (β : Bt) (n : Nat) : Bt := fun b => bif Nat.blt b n then β b else none
theorem cut_lt {β : Bt} {n b : Nat} (h : b < n) : cut β n b = β b := by
  unfold cut; rw [show Nat.blt b n = true from by simpa [Nat.blt_eq] using h]; rfl
theorem cut_ge {β : Bt} {n b : Nat} (h : n ≤ b) : cut β n b = none := by
  unfold cut
  have : Nat.blt b n = false := by
    cases e : Nat.blt b n
    · rfl
    · exact absurd (show b < n by simpa [Nat.blt_eq] using e) (by omega)
  rw [this]; rfl
theorem cut_some {β : Bt} {n b : Nat} {t : Tgt} (h : cut β n b = some t) : b < n ∧ β b = some t := by
  rcases Nat.lt_or_ge b n with h1 | h1
  · exact ⟨h1, by rw [cut_lt h1] at h; exact h⟩
  · rw [cut_ge h1] at h; cases h
theorem cut_mono {β β' : Bt} {n n' : Nat} (hn : n ≤ n') (hb : ∀ b t, β b = some t → β' b = some t) : ∀ b t, cut β n b = some t → cut β' n' b = some t ∨ cut β' n' b = some .stale := by
  intro b t h
  obtain ⟨h1, h2⟩ := cut_some h
  exact .inl (by rw [cut_lt (by omega)]; exact hb b t h2)
theorem cut_all {β : Bt} {n : Nat} (h : ∀ b, n ≤ b → β b = none) : cut β n = β := by
  funext b
  rcases Nat.lt_or_ge b n with h1 | h1
  · exact cut_lt h1
  · rw [cut_ge h1, h b h1]

theorem BR.restrict {β β1 β2 : Bt} {w w1 : World} {B o S es : Nat} {own : Bool} {k : ABlk} (h : BR β w B o S es own k) (h1 : BR β1 w1 B o S es own k) (hb : ∀ b, β b ≠ none → β2 b = β1 b) :
    BR β2 w1 B o S es own k := by
  cases k with
  | cells cs z =>
    obtain ⟨C, e, fz, h1, h2, h3, h4, h5⟩ := h1
    obtain ⟨C0, e0, fz0, g1, g2, g3, g4, g5⟩ := h
    refine ⟨C, e, fz, h1, h2, h3, fun i x hx => ?_, h5⟩
    obtain ⟨y, hy, hv1⟩ := h4 i x hx
    obtain ⟨y0, hy0, hv0⟩ := g4 i x hx
    exact ⟨y, hy, hv0.restrict hv1 hb⟩
  | ro cs =>
    obtain ⟨C, e, fz, h1, h2, h3, h4, h5⟩ := h1
    obtain ⟨C0, e0, fz0, g1, g2, g3, g4, g5⟩ := h
    refine ⟨C, e, fz, h1, h2, h3, fun i x hx => ?_, h5⟩
    obtain ⟨y, hy, hv1⟩ := h4 i x hx
    obtain ⟨y0, hy0, hv0⟩ := g4 i x hx
    exact ⟨y, hy, hv0.restrict hv1 hb⟩
  | map es =>
    obtain ⟨es', clock, h1, h2, h3, h4⟩ := h1
    obtain ⟨es0, clock0, g1, g2, g3, g4⟩ := h
    refine ⟨es', clock, h1, h2, h3, fun i p e hp he => ?_⟩
    obtain ⟨e0, he0⟩ : ∃ e0, es0[i]? = some e0 := ⟨_, Array.getElem?_eq_getElem (by rw [g2]; exact (List.getElem?_eq_some_iff.1 hp).1)⟩
    obtain ⟨a1, a2⟩ := h4 i p e hp he
    obtain ⟨b1, b2⟩ := g4 i p e0 hp he0
    exact ⟨b1.restrict a1 hb, b2.restrict a2 hb⟩

/-- The state when some of the early operations have come up. -/
structure Inv (ops : Array Oper) (m : Nat) (fr : AFr) (H : AHeap) (G : Nat → AHeap) (V : Nat → Value) (β0 : Bt) (w0 : World) (L : Nat → Bool) (β : Bt) (a : Act) (w : World) : Prop where
  defers : a.defers = []
  size : a.tmps.size = fr.n
  done : ∀ i, i < m → L i = true → ∀ d, dstAt ops i = some d → VR (cut β (G (i + 1)).next) (V i) (a.tmps.getD d undef)
  rest : ∀ t, (∀ i, i < m → L i = true → dstAt ops i ≠ some t) → VR (cut β H.next) (fr.get t) (a.tmps.getD t undef)
  rel : ∀ b B o S es own, β b = some (.live B o S es own) → ∃ k, (G m).blk b = some k ∧
    ((b < H.next ∧ BR (cut β H.next) w B o S es own k) ∨ ∃ i, i < m ∧ L i = true ∧ (G i).next ≤ b ∧ b < (G (i + 1)).next ∧ BR (cut β (G (i + 1)).next) w B o S es own k)
  stale : ∀ b, β b = some .stale → (G m).blk b = none
  inj : ∀ b1 b2 B o1 S1 es1 own1 o2 S2 es2 own2, β b1 = some (.live B o1 S1 es1 own1) → β b2 = some (.live B o2 S2 es2 own2) → (own1 = true ∨ own2 = true) → b1 = b2
  dom : ∀ b, H.next ≤ b → β b ≠ none → ∃ i, i < m ∧ L i = true ∧ (G i).next ≤ b ∧ b < (G (i + 1)).next
  step : Step H.next β0 w0 β w
  glob0 : Glob β0 w0

theorem BR.lt {β : Bt} {w : World} {B o S es : Nat} {own : Bool} {k : ABlk} (hr : BR β w B o S es own k) : B < w.heap.size := by
  have key : ∀ x, w.heap[B]? = some x → B < w.heap.size := fun x hx => (Array.getElem?_eq_some_iff.1 hx).1
  cases k with
  | cells cs z => obtain ⟨C, e, fz, h1, _⟩ := hr; exact key _ h1
  | ro cs => obtain ⟨C, e, fz, h1, _⟩ := hr; exact key _ h1
  | map es => obtain ⟨es', clock, h1, _⟩ := hr; exact key _ h1

section
variable {P : Program} {ops : Array Oper} {m : Nat} {fr : AFr} {H : AHeap} {F : Nat → AFr} {G : Nat → AHeap} {V : Nat → Value}

theorem heaps_mono (hT : ∀ j, j < m → ∃ o, ops[j]? = some o ∧ F (j + 1) = (F j).putO o.dst (V j) ∧ EOp P ops o (F j) (G j) (V j) (G (j + 1))) :
    ∀ j k, j ≤ k → k ≤ m → (G j).next ≤ (G k).next ∧ Same (G j).next (G j) (G k) := by
  intro j k hjk
  induction k with
  | zero => intro _; have : j = 0 := by omega
            subst this; exact ⟨Nat.le_refl _, Same.refl _ _⟩
  | succ k ih =>
    intro hk
    by_cases e : j = k + 1
    · subst e; exact ⟨Nat.le_refl _, Same.refl _ _⟩
    · obtain ⟨h1, h2⟩ := ih (by omega) (by omega)
      obtain ⟨o, _, _, hE⟩ := hT k (by omega)
      obtain ⟨s1, s2⟩ := hE.same
      exact ⟨Nat.le_trans h1 s2, h2.trans s1 h1⟩

/-- A slot in the text's order: written by the one that writes it, or as it was. -/
theorem frames_get (hu : ∀ i j d, dstAt ops i = some d → dstAt ops j = some d → i = j)
    (hT : ∀ j, j < m → ∃ o, ops[j]? = some o ∧ F (j + 1) = (F j).putO o.dst (V j) ∧ EOp P ops o (F j) (G j) (V j) (G (j + 1))) (hF : F 0 = fr) (t : Tmp) :
    ∀ k, k ≤ m → (∀ i, i < k → dstAt ops i = some t → (F k).get t = V i) ∧ ((∀ i, i < k → dstAt ops i ≠ some t) → (F k).get t = fr.get t) ∧ (F k).n = fr.n := by
  intro k
  induction k with
  | zero => intro _; exact ⟨fun i h => by omega, fun _ => by rw [hF], by rw [hF]⟩
  | succ k ih =>
    intro hk
    obtain ⟨h1, h2, h3⟩ := ih (by omega)
    obtain ⟨o, ho, hFk, _⟩ := hT k (by omega)
    have hdk : dstAt ops k = o.dst := by unfold dstAt; rw [ho]; rfl
    have hget : (F (k + 1)).get t = if o.dst = some t then V k else (F k).get t := by
      rw [hFk]
      cases hd : o.dst with
      | none => simp [AFr.putO]
      | some d =>
        by_cases e : d = t
        · subst e; simp [AFr.putO, AFr.put, beq_self]
        · simp [AFr.putO, AFr.put, beq_ne (Ne.symm e), e]
    have hn : (F (k + 1)).n = fr.n := by
      rw [hFk, ← h3]; cases o.dst <;> rfl
    refine ⟨fun i hi hd => ?_, fun hno => ?_, hn⟩
    · by_cases e : i = k
      · subst e; rw [hget, if_pos (by rw [← hdk]; exact hd)]
      · have hne : o.dst ≠ some t := fun h => e (hu i k t hd (by rw [hdk]; exact h))
        rw [hget, if_neg hne]; exact h1 i (by omega) hd
    · rw [hget, if_neg (by rw [← hdk]; exact hno k (by omega))]
      exact h2 fun i hi => hno i (by omega)
end
end Go.AW
