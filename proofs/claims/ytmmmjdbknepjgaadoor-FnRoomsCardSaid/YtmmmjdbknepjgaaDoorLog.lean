/- The rules of the logic for code. -/
import Derived.Test.YtmmmjdbknepjgaaDoorCore
namespace Go.AW
open Go
set_option linter.unusedVariables false

/-- What one operation comes to, with the operands' values ρ. -/
def gives (P : Program) (o : Oper) (ρ : Operand → Value) (w : World) (K : Value → World → Prop) : Prop :=
  match (execOp ρ o).run P w with
  | .ok (.value v) w' => K v w'
  | .ok .skip w' => K undef w'
  | .ok (.enter f args) w' => Calls P f args w' (fun e w'' => ∃ v, e = .returned v ∧ K v w'')
  | .ok (.row row args) w' => Rows P row args w' K
  | _ => False

theorem gives_wp {P : Program} {o : Oper} {a : Act} {w : World} {K : Value → World → Prop} {next : Act → World → Prop} {Q : Exit → Act → World → Prop}
    (h : gives P o a.eval w K) (hk : ∀ v w', K v w' → next (a.put o.dst v) w') : o.wp P a w next Q := by
  unfold gives at h
  unfold Oper.wp Oper.upon
  generalize (execOp a.eval o).run P w = r at h
  cases r with
  | halt x w' => exact h.elim
  | ok n w' =>
    cases n <;> simp only at h ⊢
    case value v => exact hk _ _ h
    case skip => exact hk _ _ h
    case enter f args =>
      refine Calls.mono h ?_
      rintro e w'' ⟨v, rfl, hv⟩
      exact hk _ _ hv
    case row row args => exact Rows.mono h fun v w'' hv => hk _ _ hv

theorem gives_value {P : Program} {o : Oper} {ρ : Operand → Value} {w w' : World} {v : Value} {K : Value → World → Prop}
    (h : (execOp ρ o).run P w = .ok (.value v) w') (hk : K v w') : gives P o ρ w K := by
  unfold gives; rw [h]; exact hk

theorem gives_skip {P : Program} {o : Oper} {ρ : Operand → Value} {w w' : World} {K : Value → World → Prop}
    (h : (execOp ρ o).run P w = .ok .skip w') (hk : K undef w') : gives P o ρ w K := by
  unfold gives; rw [h]; exact hk

theorem gives_enter {P : Program} {o : Oper} {ρ : Operand → Value} {w w' : World} {f : FuncId} {args : Array Value} {K : Value → World → Prop}
    (h : (execOp ρ o).run P w = .ok (.enter f args) w') (hk : Calls P f args w' (fun e w'' => ∃ v, e = .returned v ∧ K v w'')) : gives P o ρ w K := by
  unfold gives; rw [h]; exact hk

/-- What a stretch leaves: an abstract value and heap of which R holds. -/
def Out (n : Nat) (β : Bt) (w : World) (R : Value → AHeap → Prop) (v' : Value) (w' : World) : Prop :=
  ∃ v H' β', R v H' ∧ VR β' v v' ∧ HRel β' H' w' ∧ Step n β w β' w' ∧ n ≤ H'.next

/-- One operation over the abstract heap. -/
def AO (P : Program) (o : Oper) (ρ : Operand → Value) (H : AHeap) (R : Value → AHeap → Prop) : Prop :=
  ∀ (β : Bt) (ρ' : Operand → Value) (w : World), (∀ x ∈ o.op.operands, VR β (ρ x) (ρ' x)) → HRel β H w → gives P o ρ' w (Out H.next β w R)

/-- One call over the abstract heap. -/
def AC (P : Program) (f : FuncId) (args : List Value) (H : AHeap) (R : Value → AHeap → Prop) : Prop :=
  ∀ (β : Bt) (args' : Array Value) (w : World), args'.size = args.length → (∀ (i : Nat) u u', args[i]? = some u → args'[i]? = some u' → VR β u u') → HRel β H w →
    Calls P f args' w (fun e w' => ∃ v', e = .returned v' ∧ Out H.next β w R v' w')

/-- The end of a stretch of code. -/
def Post (n : Nat) (β : Bt) (w : World) (Q : Exit → AFr → AHeap → Prop) (e : Exit) (a' : Act) (w' : World) : Prop :=
  ∃ fr' H' β', Q e fr' H' ∧ FRel β' fr' a' ∧ HRel β' H' w' ∧ Step n β w β' w' ∧ n ≤ H'.next

def AW (P : Program) (c : Code) (Q : Exit → AFr → AHeap → Prop) (fr : AFr) (H : AHeap) : Prop :=
  ∀ (β : Bt) (a : Act) (w : World), FRel β fr a → HRel β H w → c.wp P (Post H.next β w Q) a w

def AL (P : Program) (ops : Array Oper) (Q : Exit → AFr → AHeap → Prop) (l : List Oper) (fr : AFr) (H : AHeap) : Prop :=
  ∀ (β : Bt) (a : Act) (w : World), FRel β fr a → HRel β H w → wpList P ops (Post H.next β w Q) l a w

theorem Post.lift {n n1 : Nat} {β β1 : Bt} {w w1 : World} {Q : Exit → AFr → AHeap → Prop} (hs : Step n β w β1 w1) (hn : n ≤ n1) {e : Exit} {a : Act} {w' : World}
    (h : Post n1 β1 w1 Q e a w') : Post n β w Q e a w' := by
  obtain ⟨fr', H', β', hq, hf, hh, hst, hnx⟩ := h
  exact ⟨fr', H', β', hq, hf, hh, hs.trans hst hn, Nat.le_trans hn hnx⟩

theorem Post.mono {n : Nat} {β : Bt} {w : World} {Q Q' : Exit → AFr → AHeap → Prop} (hq : ∀ e fr H, Q e fr H → Q' e fr H) {e : Exit} {a : Act} {w' : World}
    (h : Post n β w Q e a w') : Post n β w Q' e a w' := by
  obtain ⟨fr', H', β', q, rest⟩ := h
  exact ⟨fr', H', β', hq _ _ _ q, rest⟩

theorem AW.mono {P : Program} {c : Code} {Q Q' : Exit → AFr → AHeap → Prop} {fr : AFr} {H : AHeap} (h : AW P c Q fr H) (hq : ∀ e fr H, Q e fr H → Q' e fr H) : AW P c Q' fr H :=
  fun β a w hf hh => wp_mono (h β a w hf hh) fun _ _ _ q => q.mono hq

/-- What follows in a sequence. -/
def thenA (K : AFr → AHeap → Prop) (Q : Exit → AFr → AHeap → Prop) : Exit → AFr → AHeap → Prop
  | .normal, fr, H => K fr H
  | e, fr, H => Q e fr H

section
variable {P : Program} {Q : Exit → AFr → AHeap → Prop} {fr : AFr} {H : AHeap}

theorem aw_skip (h : Q .normal fr H) : AW P .skip Q fr H :=
  fun β a w hf hh => wp_skip ⟨fr, H, β, h, hf, hh, Step.refl _ _ _, Nat.le_refl _⟩

theorem aw_ret (h : Q .ret fr H) : AW P .ret Q fr H :=
  fun β a w hf hh => wp_ret ⟨fr, H, β, h, hf, hh, Step.refl _ _ _, Nat.le_refl _⟩

theorem aw_exit {id : Nat} (h : Q (.exit id) fr H) : AW P (.exit id) Q fr H :=
  fun β a w hf hh => wp_exit ⟨fr, H, β, h, hf, hh, Step.refl _ _ _, Nat.le_refl _⟩

theorem aw_label {id : Nat} (h : Q .normal fr H) : AW P (.label id) Q fr H :=
  fun β a w hf hh => wp_label ⟨fr, H, β, h, hf, hh, Step.refl _ _ _, Nat.le_refl _⟩

theorem aw_seq {x y : Code} (h : AW P x (thenA (fun fr H => AW P y Q fr H) Q) fr H) : AW P (.seq x y) Q fr H := by
  intro β a w hf hh
  refine wp_seq (wp_mono (h β a w hf hh) ?_)
  intro e a' w' hp
  obtain ⟨fr', H', β', hq, hf', hh', hst, hn⟩ := hp
  cases e with
  | normal => exact wp_mono (hq β' a' w' hf' hh') fun _ _ _ q => q.lift hst hn
  | _ => exact ⟨fr', H', β', hq, hf', hh', hst, hn⟩

theorem VR.bool_inv {β : Bt} {b : Bool} {v : Value} (h : VR β (.bool b) v) : v = .bool b := by cases h; rfl
theorem VR.int_inv {β : Bt} {k : IntKind} {n : Int} {v : Value} (h : VR β (.int k n) v) : v = .int k n := by cases h; rfl
theorem VR.string_inv {β : Bt} {s : ByteArray} {v : Value} (h : VR β (.string s) v) : v = .string s := by cases h; rfl

theorem VR.undef_inv {β : Bt} {v : Value} (h : VR β Go.undef v) : ∀ b, v ≠ .bool b := by
  intro b e; subst e; cases h

/-- A test on a slot. -/
theorem aw_cond {t : Nat} {x y : Code} {b : Bool} (hc : fr.get t = .bool b) (hx : b = true → AW P x Q fr H) (hy : b = false → AW P y Q fr H) :
    AW P (.cond (.tmp t) x y) Q fr H := by
  intro β a w hf hh
  have hv : a.eval (.tmp t) = .bool b := by
    have := hf.val t
    rw [hc] at this
    exact this.bool_inv
  exact wp_cond_split hv (fun h => hx h β a w hf hh) (fun h => hy h β a w hf hh)

theorem aw_cond_const {x y : Code} {b : Bool} (hx : b = true → AW P x Q fr H) (hy : b = false → AW P y Q fr H) :
    AW P (.cond (.const (.bool b)) x y) Q fr H :=
  fun β a w hf hh => wp_cond_split rfl (fun h => hx h β a w hf hh) (fun h => hy h β a w hf hh)

def blockA (id : Nat) (Q : Exit → AFr → AHeap → Prop) : Exit → AFr → AHeap → Prop
  | .exit id', fr, H => if id' = id then Q .normal fr H else Q (.exit id') fr H
  | e, fr, H => Q e fr H

theorem aw_block {id : Nat} {c : Code} (h : AW P c (blockA id Q) fr H) : AW P (.block id c) Q fr H := by
  intro β a w hf hh
  refine wp_block (wp_mono (h β a w hf hh) ?_)
  intro e a' w' hp
  obtain ⟨fr', H', β', hq, rest⟩ := hp
  cases e with
  | exit id' =>
    show (if id' = id then _ else _)
    simp only [blockA] at hq
    by_cases hid : id' = id
    · rw [if_pos hid] at hq; rw [if_pos hid]; exact ⟨fr', H', β', hq, rest⟩
    · rw [if_neg hid] at hq; rw [if_neg hid]; exact ⟨fr', H', β', hq, rest⟩
  | _ => exact ⟨fr', H', β', hq, rest⟩

/-- A loop: a relation that bears a number, which every round lowers. -/
theorem aw_loop {c : Code} (I : Nat → AFr → AHeap → Prop) (n₀ : Nat) (h₀ : I n₀ fr H)
    (round : ∀ n fr H, I n fr H → AW P c (thenA (fun fr' H' => ∃ n', n' < n ∧ I n' fr' H') Q) fr H) : AW P (.loop c) Q fr H := by
  intro β a w hf hh
  refine wp_loop_ghost (fun n a' w' => ∃ fr' H' β', I n fr' H' ∧ FRel β' fr' a' ∧ HRel β' H' w' ∧ Step H.next β w β' w' ∧ H.next ≤ H'.next) n₀
    ⟨fr, H, β, h₀, hf, hh, Step.refl _ _ _, Nat.le_refl _⟩ ?_
  rintro n a1 w1 ⟨fr1, H1, β1, hI, hf1, hh1, hst, hn⟩
  refine wp_mono (round n fr1 H1 hI β1 a1 w1 hf1 hh1) ?_
  intro e a2 w2 hp
  obtain ⟨fr2, H2, β2, hq, hf2, hh2, hst2, hn2⟩ := hp
  cases e with
  | normal =>
    obtain ⟨n', hlt, hI'⟩ := hq
    exact ⟨n', hlt, fr2, H2, β2, hI', hf2, hh2, hst.trans hst2 hn, Nat.le_trans hn hn2⟩
  | _ => exact ⟨fr2, H2, β2, hq, hf2, hh2, hst.trans hst2 hn, Nat.le_trans hn hn2⟩

theorem aw_region {id : Nat} {l : List Oper} (h : AL P l.toArray Q l fr H) : AW P (.region id l.toArray false) Q fr H :=
  fun β a w hf hh => wp_region_lit (h β a w hf hh)

theorem al_nil {ops : Array Oper} (h : Q .normal fr H) : AL P ops Q [] fr H :=
  fun β a w hf hh => wpList_nil ⟨fr, H, β, h, hf, hh, Step.refl _ _ _, Nat.le_refl _⟩

/-- Constants that name no block. -/
def plain1 : Value → Bool
  | .bool _ | .int _ _ | .string _ | .pointer none | .slice none 0 0 | .map none | .nilFunc | .nilIface => true
  | _ => false
def plainV : Value → Bool
  | .agg x => x.toList.all plain1
  | v => plain1 v

theorem VR.plain1 (β : Bt) {u : Value} (hu : plain1 u = true) : VR β u u := by
  unfold AW.plain1 at hu
  split at hu
  · exact .bool _
  · exact .int _ _
  · exact .string _
  · exact .ptrNil
  · exact .sliceNil
  · exact .mapNil
  · exact .nilFunc
  · exact .nilIface
  · exact absurd hu (by simp)

theorem VR.plain (β : Bt) {v : Value} (h : plainV v = true) : VR β v v := by
  cases v with
  | agg x =>
    refine .agg rfl ?_
    intro i u u' hu hu'
    rw [hu] at hu'; cases hu'
    simp only [plainV, List.all_eq_true] at h
    have hm : u ∈ x.toList := by
      have := Array.mem_of_getElem? hu
      simpa using this
    exact VR.plain1 β (h u hm)
  | _ => exact VR.plain1 β h

def okX : Operand → Bool
  | .tmp _ | .func _ => true
  | .const v => plainV v
  | .global _ => false

theorem FRel.ev {β : Bt} {a : Act} (hf : FRel β fr a) {x : Operand} (hx : okX x = true) : VR β (fr.ev x) (a.eval x) := by
  cases x with
  | tmp t => exact hf.val t
  | const v => exact VR.plain β hx
  | global g => simp [okX] at hx
  | func f => exact .func rfl (by intro i u u' h; simp at h) rfl (by intro i u u' h; simp at h)

/-- An operation without a guard. -/
theorem al_op {ops : Array Oper} {o : Oper} {rest : List Oper} {R : Value → AHeap → Prop} (hg : o.guard = none) (hx : o.op.operands.toList.all okX = true)
    (hd : o.dst.all (fun d => Nat.blt d fr.n) = true) (ho : AO P o fr.ev H R) (h : ∀ v H', R v H' → AL P ops Q rest (fr.putO o.dst v) H') :
    AL P ops Q (o :: rest) fr H := by
  intro β a w hf hh
  refine wpList_plain hg fun K hK => ?_
  have hxs : ∀ x ∈ o.op.operands, VR β (fr.ev x) (a.eval x) := by
    intro x hm
    exact hf.ev (List.all_eq_true.1 hx x (by simpa using hm))
  refine gives_wp (ho β a.eval w hxs hh) ?_
  rintro v' w' ⟨v, H', β', hR, hv, hh', hst, hn⟩
  refine hK _ _ ?_
  have hf' : FRel β' (fr.putO o.dst v) (a.put o.dst v') := by
    have hm := hf.mono hst.ext
    cases hdst : o.dst with
    | none => exact hm
    | some d =>
      rw [hdst] at hd
      exact hm.put (by simpa [Nat.blt_eq] using hd) hv
  have := h v H' hR β' _ w' hf' hh'
  exact wpList_post this hst hn
where
  wpList_post {P : Program} {ops : Array Oper} {Q : Exit → AFr → AHeap → Prop} {n n1 : Nat} {β β1 : Bt} {w w1 : World} {l : List Oper} {a : Act}
    (h : wpList P ops (Post n1 β1 w1 Q) l a w1) (hst : Step n β w β1 w1) (hn : n ≤ n1) : wpList P ops (Post n β w Q) l a w1 := by
    refine wpList_monoQ ?_ h
    intro e a' w' q
    exact q.lift hst hn
  wpList_monoQ {P : Program} {ops : Array Oper} {Q1 Q2 : Exit → Act → World → Prop} (hq : ∀ e a w, Q1 e a w → Q2 e a w) : ∀ {l : List Oper} {a : Act} {w : World},
    wpList P ops Q1 l a w → wpList P ops Q2 l a w
    | [], _, _, h => hq _ _ _ h
    | o :: rest, a, w, h => by
      unfold wpList at h ⊢
      split
      · rename_i hw
        rw [if_pos hw] at h
        rcases h with h | ⟨h1, a0, w0, h2⟩
        · refine .inl ?_
          have h := Oper.wp_mono (K' := wpList P ops Q2 rest) (fun a' w' hh => wpList_monoQ hq hh) h
          unfold Oper.wp Oper.upon at h ⊢
          split <;> simp_all
          · rename_i f args w' hr
            refine Calls.mono h fun e w'' he => ?_
            cases e with
            | returned v => exact he
            | panicked c => exact hq _ _ _ he
            | outgrown => obtain ⟨a0, w0, h0⟩ := he; exact ⟨a0, w0, hq _ _ _ h0⟩
        · exact .inr ⟨h1, a0, w0, hq _ _ _ h2⟩
      · rename_i hw
        rw [if_neg hw] at h
        exact wpList_monoQ hq h

end
end Go.AW
