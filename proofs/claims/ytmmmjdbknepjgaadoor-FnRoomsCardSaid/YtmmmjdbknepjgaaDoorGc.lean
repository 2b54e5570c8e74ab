/- What a callee made and nobody holds is dropped. -/
import Derived.Test.YtmmmjdbknepjgaaDoorCall
namespace Go.AW
open Go
set_option linter.unusedVariables false
set_option linter.unusedSimpArgs false

/-- A new name for a block, as a map of blocks. -/
def ren (b : Nat) : Tgt := .live b 0 0 0 false
def Ren (ρ : Bt) : Prop := ∀ b t, ρ b = some t → ∃ b', t = ren b'
def compB (ρ β : Bt) : Bt := fun b => match ρ b with
  | some (.live b' _ _ _ _) => β b'
  | _ => none

theorem compB_eq {ρ β : Bt} {b b' : Nat} (h : ρ b = some (ren b')) : compB ρ β b = β b' := by unfold compB; rw [h]; rfl

theorem VR.comp {ρ β : Bt} (hρ : Ren ρ) {v2 v : Value} (h : VR ρ v2 v) : ∀ {v' : Value}, VR β v v' → VR (compB ρ β) v2 v' := by
  induction h with
  | bool b => intro v' h; cases h; exact .bool b
  | int k n => intro v' h; cases h; exact .int k n
  | string s => intro v' h; cases h; exact .string s
  | ptrNil => intro v' h; cases h; exact .ptrNil
  | ptr h =>
    intro v' h1
    cases h1 with
    | ptr h1 =>
      obtain ⟨s1, s2, t, ht, hl⟩ := h
      obtain ⟨b', rfl⟩ := hρ _ _ ht
      obtain ⟨e1, e2⟩ := hl b' 0 0 0 false rfl
      obtain ⟨_, g2, t', g3, g4⟩ := h1
      refine .ptr ⟨s1, g2, t', by rw [compB_eq ht, ← e1]; exact g3, fun B o S es own e => ?_⟩
      obtain ⟨k1, k2⟩ := g4 B o S es own e
      exact ⟨k1, by omega⟩
  | sliceNil => intro v' h; cases h; exact .sliceNil
  | slice h =>
    intro v' h1
    cases h1 with
    | slice h1 =>
      obtain ⟨s1, s2, s3, s4, t, ht, hl⟩ := h
      obtain ⟨b', rfl⟩ := hρ _ _ ht
      obtain ⟨_, g2, g5, g6, t', g3, g4⟩ := h1
      obtain ⟨e1, e2, e4⟩ := hl b' 0 0 0 false rfl
      refine .slice ⟨s1, g2, g5, fun hc => by have := s4 hc; exact g6 (by omega), t', by rw [compB_eq ht, ← e1]; exact g3, fun B o S es own e => ?_⟩
      obtain ⟨k1, k2, k4⟩ := g4 B o S es own e
      refine ⟨k1, ?_, fun hlt => ?_⟩
      · rcases e2 with ⟨e2, e3⟩ | ⟨e2, _⟩
        · exact .inl ⟨e2, by have := g6 (by omega); omega⟩
        · rcases k2 with k2 | ⟨k2, k3⟩
          · exact .inl k2
          · exact .inr ⟨by omega, k3⟩
      · have h1 := (e4 hlt).2 rfl
        have h2 := k4 (by omega)
        exact ⟨fun ho => by have := h2.1 ho; omega, fun ho => by have := h2.2 ho; omega⟩
  | mapNil => intro v' h; cases h; exact .mapNil
  | map t h h' =>
    intro v' h1
    cases h1 with
    | map t1 g g' =>
      obtain ⟨b', rfl⟩ := hρ _ _ h
      have := h' b' 0 0 0 false rfl
      subst this
      exact .map t1 (by rw [compB_eq h]; exact g) g'
  | func hx hx' hy hy' ihx ihy =>
    intro v' h1
    cases h1 with
    | func gx gx' gy gy' =>
      refine .func (hx.trans gx) (fun i u u' hu hu' => ?_) (hy.trans gy) (fun i u u' hu hu' => ?_)
      · obtain ⟨z, hz⟩ : ∃ z, _ = some z := ⟨_, Array.getElem?_eq_getElem (by rw [← hx]; exact (Array.getElem?_eq_some_iff.1 hu).1)⟩
        exact ihx i u z hu hz (gx' i z u' hz hu')
      · obtain ⟨z, hz⟩ : ∃ z, _ = some z := ⟨_, Array.getElem?_eq_getElem (by rw [← hy]; exact (Array.getElem?_eq_some_iff.1 hu).1)⟩
        exact ihy i u z hu hz (gy' i z u' hz hu')
  | nilFunc => intro v' h; cases h; exact .nilFunc
  | iface _ ih => intro v' h1; cases h1 with | iface g => exact .iface (ih g)
  | nilIface => intro v' h; cases h; exact .nilIface
  | agg hx hx' ih =>
    intro v' h1
    cases h1 with
    | agg gx gx' =>
      refine .agg (hx.trans gx) (fun i u u' hu hu' => ?_)
      obtain ⟨z, hz⟩ : ∃ z, _ = some z := ⟨_, Array.getElem?_eq_getElem (by rw [← hx]; exact (Array.getElem?_eq_some_iff.1 hu).1)⟩
      exact ih i u z hu hz (gx' i z u' hz hu')
  | tuple hx hx' ih =>
    intro v' h1
    cases h1 with
    | tuple gx gx' =>
      refine .tuple (hx.trans gx) (fun i u u' hu hu' => ?_)
      obtain ⟨z, hz⟩ : ∃ z, _ = some z := ⟨_, Array.getElem?_eq_getElem (by rw [← hx]; exact (Array.getElem?_eq_some_iff.1 hu).1)⟩
      exact ih i u z hu hz (gx' i z u' hz hu')

theorem VRL.comp {ρ β : Bt} (hρ : Ren ρ) {xs ys zs : List Value} (h : VRL ρ xs ys) (k : VRL β ys zs) : VRL (compB ρ β) xs zs := by
  refine ⟨h.1.trans k.1, fun i x z hx hz => ?_⟩
  obtain ⟨y, hy, hv⟩ := h.get hx
  exact hv.comp hρ (k.2 i y z hy hz)

/-- Names that stay, and new ones. -/
def keepB (n : Nat) (ρ : Bt) : Bt := fun b => bif Nat.blt b n then some (ren b) else ρ b
theorem keepB_lt {n b : Nat} (ρ : Bt) (h : b < n) : keepB n ρ b = some (ren b) := by
  unfold keepB; rw [show Nat.blt b n = true from by simpa [Nat.blt_eq] using h]; rfl
theorem keepB_ge {n b : Nat} (ρ : Bt) (h : n ≤ b) : keepB n ρ b = ρ b := by
  unfold keepB
  have : Nat.blt b n = false := by
    cases e : Nat.blt b n
    · rfl
    · exact absurd (show b < n by simpa [Nat.blt_eq] using e) (by omega)
  rw [this]; rfl

/-- A block told anew: with fewer cells, or the same entries. -/
def ABR (β : Bt) : ABlk → ABlk → Prop
  | .cells cs2 e2, .cells cs e => e2 = e ∧ cs2.length ≤ cs.length ∧ ∀ (i : Nat) x, cs2[i]? = some x → ∃ y, cs[i]? = some y ∧ VR β x y
  | .map es2, .map es => es2.length = es.length ∧ ∀ (i : Nat) p q, es2[i]? = some p → es[i]? = some q → VR β p.1 q.1 ∧ VR β p.2 q.2
  | _, _ => False

theorem ABR.cells {β : Bt} {cs2 cs : List Value} {e : Nat} (h : VRL β cs2 cs) : ABR β (.cells cs2 e) (.cells cs e) :=
  ⟨rfl, Nat.le_of_eq h.1, fun i x hx => h.get hx⟩
theorem ABR.part {β : Bt} {cs2 cs r : List Value} {e : Nat} (h : VRL β cs2 cs) : ABR β (.cells cs2 e) (.cells (cs ++ r) e) :=
  ⟨rfl, by rw [List.length_append, h.1]; omega, fun i x hx => by
    obtain ⟨y, hy, hv⟩ := h.get hx
    exact ⟨y, by rw [List.getElem?_append_left (List.getElem?_eq_some_iff.1 hy).1]; exact hy, hv⟩⟩

theorem ABR.br {ρ β : Bt} (hρ : Ren ρ) {k2 k : ABlk} (h : ABR ρ k2 k) {w : World} {B o S es : Nat} {own : Bool} (hr : BR β w B o S es own k) : BR (compB ρ β) w B o S es own k2 := by
  cases k2 with
  | cells cs2 e2 =>
    cases k with
    | cells cs e =>
      obtain ⟨rfl, hl, hv⟩ := h
      obtain ⟨C, e, fz, g1, g2, g3, g4, g5⟩ := hr
      refine ⟨C, e, fz, g1, g2, by omega, fun i x hx => ?_, g5⟩
      obtain ⟨y, hy, hxy⟩ := hv i x hx
      obtain ⟨z', hz, hyz⟩ := g4 i y hy
      exact ⟨z', hz, hxy.comp hρ hyz⟩
    | ro _ => exact h.elim
    | map _ => exact h.elim
  | ro cs2 => cases k <;> exact h.elim
  | map es2 =>
    cases k with
    | cells _ _ => exact h.elim
    | ro _ => exact h.elim
    | map es =>
      obtain ⟨hl, hv⟩ := h
      obtain ⟨es', clock, h1, h2, h3, h4⟩ := hr
      refine ⟨es', clock, h1, h2.trans hl.symm, h3, fun i p e hp he => ?_⟩
      obtain ⟨q, hq⟩ : ∃ q, es[i]? = some q := ⟨_, List.getElem?_eq_getElem (by rw [← hl]; exact (List.getElem?_eq_some_iff.1 hp).1)⟩
      obtain ⟨a1, a2⟩ := hv i p q hp hq
      obtain ⟨b1, b2⟩ := h4 i q e hq he
      exact ⟨a1.comp hρ b1, a2.comp hρ b2⟩

/-- What a callee leaves may be told anew: its own blocks dropped or named again. -/
structure Gc (H : AHeap) (v : Value) (H' : AHeap) (v2 : Value) (H2 : AHeap) (ρ : Bt) : Prop where
  ren : Ren ρ
  next : H.next ≤ H2.next
  val : VR (keepB H.next ρ) v2 v
  old : ∀ b, b < H.next → H2.blk b = H'.blk b
  kept : ∀ b, b < H.next → H'.blk b = H.blk b ∨ ∃ cs es, H'.blk b = some (.cells cs es) ∧ ∀ β : Bt, VRL β cs cs
  new : ∀ b, H.next ≤ b → b < H2.next → ∃ b' k2 k, ρ b = some (AW.ren b') ∧ H.next ≤ b' ∧ H2.blk b = some k2 ∧ H'.blk b' = some k ∧ ABR (keepB H.next ρ) k2 k
  out : ∀ b, H2.next ≤ b → ρ b = none
  inj : ∀ b1 b2 b', H.next ≤ b1 → H.next ≤ b2 → ρ b1 = some (AW.ren b') → ρ b2 = some (AW.ren b') → b1 = b2

theorem VRL.restrict {β β1 β2 : Bt} {xs ys : List Value} {zs : List Value} (h : VRL β xs ys) (k : VRL β1 xs zs) (hb : ∀ b, β b ≠ none → β2 b = β1 b) : VRL β2 xs zs := by
  refine ⟨k.1, fun i x z hx hz => ?_⟩
  obtain ⟨y, hy, hv⟩ := h.get hx
  exact hv.restrict (k.2 i x z hx hz) hb

theorem Gc.out_of {H : AHeap} {v : Value} {H' : AHeap} {v2 : Value} {H2 : AHeap} {ρ : Bt} (hg : Gc H v H' v2 H2 ρ) {β β' : Bt} {w w' : World} {v' : Value}
    (hh : HRel β H w) (hv : VR β' v v') (hh' : HRel β' H' w') (hst : Step H.next β w β' w') (hn : H.next ≤ H'.next) {R : Value → AHeap → Prop} (hR : R v2 H2) :
    Out H.next β w R v' w' := by
  have hren : Ren (keepB H.next ρ) := by
    intro b t hb
    by_cases h : b < H.next
    · rw [keepB_lt _ h] at hb; cases hb; exact ⟨b, rfl⟩
    · rw [keepB_ge _ (by omega)] at hb; exact hg.ren b t hb
  -- a block below H.next
  have hlow : ∀ b, b < H.next → compB (keepB H.next ρ) β' b = β' b := fun b hb => compB_eq (keepB_lt ρ hb)
  have hpres : ∀ b, β b ≠ none → b < H.next := fun b hb => by
    rcases Nat.lt_or_ge b H.next with h | h
    · exact h
    · exact absurd (hh.dom b h) hb
  have hres : ∀ b, β b ≠ none → compB (keepB H.next ρ) β' b = β' b := fun b hb => hlow b (hpres b hb)
  -- what is above
  have hhigh : ∀ b t, H.next ≤ b → compB (keepB H.next ρ) β' b = some t → b < H2.next ∧ ∃ b' k2 k, ρ b = some (AW.ren b') ∧ H.next ≤ b' ∧ H2.blk b = some k2 ∧
      H'.blk b' = some k ∧ ABR (keepB H.next ρ) k2 k ∧ β' b' = some t := by
    intro b t hb ht
    have hlt : b < H2.next := by
      rcases Nat.lt_or_ge b H2.next with h | h
      · exact h
      · unfold compB at ht; rw [keepB_ge _ hb, hg.out b h] at ht; cases ht
    obtain ⟨b', k2, k, h1, h2, h3, h4, h5⟩ := hg.new b hb hlt
    refine ⟨hlt, b', k2, k, h1, h2, h3, h4, h5, ?_⟩
    rw [compB_eq (b' := b') (by rw [keepB_ge _ hb]; exact h1)] at ht
    exact ht
  have hgl : Glob (compB (keepB H.next ρ) β') w' := hh'.glob.of (fun _ _ _ => rfl) fun b g o S es hb => by
    by_cases hlt : b < H.next
    · rw [hlow b hlt] at hb; exact .inl ⟨b, _, _, _, hb⟩
    · obtain ⟨_, b', _, _, _, _, _, _, _, h9⟩ := hhigh b _ (by omega) hb
      exact .inl ⟨b', _, _, _, h9⟩
  refine ⟨v2, H2, compB (keepB H.next ρ) β', hR, hg.val.comp hren hv, ⟨?_, ?_, ?_, ?_, hgl⟩, ⟨?_, ?_, ?_, ?_, hst.os, hst.tape, hst.output, hst.size, hst.block⟩, hg.next⟩
  · -- rel
    intro b B o S es own hb
    by_cases hlt : b < H.next
    · rw [hlow b hlt] at hb
      obtain ⟨k, hk, hr⟩ := hh'.rel b B o S es own hb
      refine ⟨k, by rw [hg.old b hlt]; exact hk, ?_⟩
      rcases hg.kept b hlt with hkp | ⟨cs, z, hkp, hpl⟩
      · -- as it was
        have hb0 : β b = some (.live B o S es own) := by
          cases e : β b with
          | none => rw [hst.none b hlt e] at hb; cases hb
          | some t =>
            rcases hst.ext b t e with h1 | h1
            · rw [h1] at hb; cases hb; rfl
            · rw [h1] at hb; cases hb
        obtain ⟨k0, hk0, hr0⟩ := hh.rel b B o S es own hb0
        rw [hkp, hk0] at hk; cases hk
        cases k with
        | cells cs z =>
          obtain ⟨C, e, fz, h1, h2, h3, h4, h5⟩ := hr
          obtain ⟨C0, e0, fz0, g1, g2, g3, g4, g5⟩ := hr0
          refine ⟨C, e, fz, h1, h2, h3, fun i x hx => ?_, h5⟩
          obtain ⟨y, hy, hv1⟩ := h4 i x hx
          obtain ⟨y0, hy0, hv0⟩ := g4 i x hx
          exact ⟨y, hy, hv0.restrict hv1 hres⟩
        | ro cs =>
          obtain ⟨C, e, fz, h1, h2, h3, h4, h5⟩ := hr
          obtain ⟨C0, e0, fz0, g1, g2, g3, g4, g5⟩ := hr0
          refine ⟨C, e, fz, h1, h2, h3, fun i x hx => ?_, h5⟩
          obtain ⟨y, hy, hv1⟩ := h4 i x hx
          obtain ⟨y0, hy0, hv0⟩ := g4 i x hx
          exact ⟨y, hy, hv0.restrict hv1 hres⟩
        | map es =>
          obtain ⟨es', clock, h1, h2, h3, h4⟩ := hr
          obtain ⟨es0, clock0, g1, g2, g3, g4⟩ := hr0
          refine ⟨es', clock, h1, h2, h3, fun i p e hp he => ?_⟩
          obtain ⟨e0, he0⟩ : ∃ e0, es0[i]? = some e0 := ⟨_, Array.getElem?_eq_getElem (by rw [g2]; exact (List.getElem?_eq_some_iff.1 hp).1)⟩
          obtain ⟨a1, a2⟩ := h4 i p e hp he
          obtain ⟨b1, b2⟩ := g4 i p e0 hp he0
          exact ⟨b1.restrict a1 hres, b2.restrict a2 hres⟩
      · rw [hkp] at hk; cases hk
        obtain ⟨C, e, fz, h1, h2, h3, h4, h5⟩ := hr
        refine ⟨C, e, fz, h1, h2, h3, fun i x hx => ?_, h5⟩
        obtain ⟨y, hy, hv1⟩ := h4 i x hx
        exact ⟨y, hy, ((hpl (fun _ => none)).2 i x x hx hx).restrict hv1 (fun b hb => absurd rfl hb)⟩
    · obtain ⟨hlt2, b', k2, k1, h1, h2, h3, h4, h5, h6⟩ := hhigh b _ (by omega) hb
      obtain ⟨k, hk, hr⟩ := hh'.rel b' B o S es own h6
      rw [h4] at hk; cases hk
      exact ⟨_, h3, h5.br hren hr⟩
  · -- stale
    intro b hb
    by_cases hlt : b < H.next
    · rw [hlow b hlt] at hb
      rw [hg.old b hlt]; exact hh'.stale b hb
    · obtain ⟨_, b', cs2, cs, h1, h2, h3, h4, h5, h6⟩ := hhigh b _ (by omega) hb
      have := hh'.stale b' h6
      rw [h4] at this; cases this
  · -- inj
    intro b1 b2 B o1 S1 es1 own1 o2 S2 es2 own2 k1 k2 ho
    by_cases l1 : b1 < H.next
    · rw [hlow b1 l1] at k1
      by_cases l2 : b2 < H.next
      · rw [hlow b2 l2] at k2
        exact hh'.inj b1 b2 B o1 S1 es1 own1 o2 S2 es2 own2 k1 k2 ho
      · obtain ⟨_, b', cs2, cs, h1, h2, h3, h4, h5, h6⟩ := hhigh b2 _ (by omega) k2
        have := hh'.inj b1 b' B o1 S1 es1 own1 o2 S2 es2 own2 k1 h6 ho
        omega
    · obtain ⟨_, b', cs2, cs, h1, h2, h3, h4, h5, h6⟩ := hhigh b1 _ (by omega) k1
      by_cases l2 : b2 < H.next
      · rw [hlow b2 l2] at k2
        have := hh'.inj b' b2 B o1 S1 es1 own1 o2 S2 es2 own2 h6 k2 ho
        omega
      · obtain ⟨_, c', ds2, ds, g1, g2, g3, g4, g5, g6⟩ := hhigh b2 _ (by omega) k2
        have := hh'.inj b' c' B o1 S1 es1 own1 o2 S2 es2 own2 h6 g6 ho
        subst this
        exact hg.inj b1 b2 b' (by omega) (by omega) h1 g1
  · -- dom
    intro b hb
    cases e : compB (keepB H.next ρ) β' b with
    | none => rfl
    | some t => exact absurd (hhigh b t (Nat.le_trans hg.next hb) e).1 (by omega)
  · -- ext
    intro b t hb
    have hlt := hpres b (by rw [hb]; simp)
    rw [hlow b hlt]; exact hst.ext b t hb
  · intro b hb hno
    rw [hlow b hb]; exact hst.none b hb hno
  · intro b B o S es hb
    by_cases hlt : b < H.next
    · rw [hlow b hlt] at hb; exact hst.img b B o S es hb
    · obtain ⟨_, b', cs2, cs, h1, h2, h3, h4, h5, h6⟩ := hhigh b _ (by omega) hb
      exact hst.img b' B o S es h6
  · intro b B o S es hb
    by_cases hlt : b < H.next
    · rw [hlow b hlt] at hb; exact hst.imgRO b B o S es hb
    · obtain ⟨_, b', cs2, cs, h1, h2, h3, h4, h5, h6⟩ := hhigh b _ (by omega) hb
      have := hst.imgRO b' B o S es h6
      exact absurd (hpres b' (by rw [this]; simp)) (by omega)

theorem ac_gc {P : Program} {f : FuncId} {args : List Value} {H : AHeap} {R R2 : Value → AHeap → Prop} (h : AC P f args H R)
    (hg : ∀ v H', R v H' → ∃ v2 H2 ρ, R2 v2 H2 ∧ Gc H v H' v2 H2 ρ) : AC P f args H R2 := by
  intro β args' w hs hv hh
  refine (h β args' w hs hv hh).mono ?_
  rintro e w' ⟨v', he, v, H', β', hR, hvv, hh', hst, hn⟩
  obtain ⟨v2, H2, ρ, hR2, hgc⟩ := hg v H' hR
  exact ⟨v', he, hgc.out_of hh hvv hh' hst hn hR2⟩

def noB : Bt := fun _ => none

/-- A value that names no block, nothing old turned: what the callee made is dropped. -/
theorem ac_gc0 {P : Program} {f : FuncId} {args : List Value} {H : AHeap} {v : Value} (hp : ∀ β, VR β v v)
    (h : AC P f args H (fun v' H' => v' = v ∧ Same H.next H H')) : ACd P f args H v H := by
  refine ac_gc h ?_
  rintro v' H' ⟨rfl, hs⟩
  exact ⟨v', H, noB, ⟨rfl, rfl⟩, ⟨(fun b t hb => by cases hb), Nat.le_refl _, hp _, fun b hb => (hs b hb).symm, fun b hb => .inl (hs b hb), (fun b h1 h2 => by omega), fun b _ => rfl, (fun b1 b2 b' _ _ h => by cases h)⟩⟩

/-- The same, where cells of one old block have turned (to values that name no block). -/
theorem ac_gc1 {P : Program} {f : FuncId} {args : List Value} {H : AHeap} {v : Value} {b0 : Nat} {cs : List Value} {es : Nat} (hp : ∀ β, VR β v v) (hl : ∀ β : Bt, VRL β cs cs) (hb0 : ∃ k, H.blk b0 = some k)
    (h : AC P f args H (fun v' H' => v' = v ∧ Same H.next (H.set b0 (.cells cs es)) H')) : ACd P f args H v (H.set b0 (.cells cs es)) := by
  refine ac_gc h ?_
  rintro v' H' ⟨rfl, hs⟩
  refine ⟨v', H.set b0 (.cells cs es), noB, ⟨rfl, rfl⟩, ⟨(fun b t hb => by cases hb), Nat.le_refl _, hp _, fun b hb => (hs b hb).symm, fun b hb => ?_, (fun b h1 h2 => by rw [next_set] at h2; omega), fun b _ => rfl, (fun b1 b2 b' _ _ h => by cases h)⟩⟩
  by_cases e : b = b0
  · subst e
    obtain ⟨k, hk⟩ := hb0
    exact .inr ⟨cs, es, by rw [hs b hb]; exact blk_set_same hk, hl⟩
  · exact .inl (by rw [hs b hb]; exact blk_set_ne e)

/-- A result that leads to one new block. -/
theorem ac_gcs {P : Program} {f : FuncId} {args : List Value} {H : AHeap} {v2 : Value} {cs : List Value} {es : Nat} (hl : ∀ β : Bt, VRL β cs cs)
    (h : AC P f args H (fun v H' => Same H.next H H' ∧ ∃ b', H.next ≤ b' ∧ H'.blk b' = some (.cells cs es) ∧ ∀ ρ : Bt, ρ H.next = some (ren b') → VR ρ v2 v)) :
    ACd P f args H v2 (H.push (.cells cs es)) := by
  refine ac_gc h ?_
  rintro v H' ⟨hs, b', hb', hk, hv⟩
  have hn : keepB H.next (fun b => bif Nat.beq b H.next then some (ren b') else none) H.next = some (ren b') := by
    rw [keepB_ge _ (Nat.le_refl _), beq_self]; rfl
  refine ⟨v2, H.push (.cells cs es), fun b => bif Nat.beq b H.next then some (ren b') else none, ⟨rfl, rfl⟩, ⟨?_, by rw [next_push]; omega, hv _ hn, fun b hb => ?_, fun b hb => .inl (hs b hb), fun b h1 h2 => ?_, fun b h1 => ?_, fun b1 b2 c _ _ h1 h2 => ?_⟩⟩
  · intro b t hb
    dsimp only at hb
    by_cases e : b = H.next
    · subst e; rw [beq_self] at hb; cases hb; exact ⟨b', rfl⟩
    · rw [beq_ne e] at hb; cases hb
  · rw [blk_push_ne (by omega)]; exact (hs b hb).symm
  · have e : b = H.next := by rw [next_push] at h2; omega
    subst e
    exact ⟨b', _, _, by rw [beq_self]; rfl, hb', blk_push_new _ _, hk, .cells (hl _)⟩
  · rw [next_push] at h1; rw [beq_ne (by omega)]; rfl
  · by_cases e1 : b1 = H.next
    · by_cases e2 : b2 = H.next
      · rw [e1, e2]
      · rw [beq_ne e2] at h2; cases h2
    · rw [beq_ne e1] at h1; cases h1

def AHeap.pushes (H : AHeap) : List ABlk → AHeap
  | [] => H
  | k :: ks => (H.push k).pushes ks
theorem next_pushes (ks : List ABlk) : ∀ (H : AHeap), (H.pushes ks).next = H.next + ks.length := by
  induction ks with
  | nil => intro H; rfl
  | cons k ks ih => intro H; show ((H.push k).pushes ks).next = _; rw [ih, next_push, List.length_cons]; omega
theorem blk_pushes_old (ks : List ABlk) : ∀ (H : AHeap) (b : Nat), b < H.next → (H.pushes ks).blk b = H.blk b := by
  induction ks with
  | nil => intro H b _; rfl
  | cons k ks ih => intro H b hb; show ((H.push k).pushes ks).blk b = _; rw [ih _ _ (by rw [next_push]; omega), blk_push_ne (by omega)]
theorem blk_pushes_new (ks : List ABlk) : ∀ (H : AHeap) (i : Nat) (k : ABlk), ks[i]? = some k → (H.pushes ks).blk (H.next + i) = some k := by
  induction ks with
  | nil => intro H i k h; simp at h
  | cons a ks ih =>
    intro H i k h
    show ((H.push a).pushes ks).blk _ = _
    cases i with
    | zero => simp at h; subst h; rw [blk_pushes_old _ _ _ (by rw [next_push]; omega)]; exact blk_push_new _ _
    | succ i => have := ih (H.push a) i k (by simpa using h); rw [next_push] at this; rwa [show H.next + (i + 1) = H.next + 1 + i by omega]

/-- A result that leads to some new blocks. -/
theorem ac_gcn {P : Program} {f : FuncId} {args : List Value} {H : AHeap} {v2 : Value} {ks : List ABlk}
    (h : AC P f args H (fun v H' => Same H.next H H' ∧ ∃ bs : List Nat, bs.length = ks.length ∧ bs.Nodup ∧ (∀ (i b : Nat), bs[i]? = some b → H.next ≤ b) ∧
      ∀ ρ : Bt, (∀ (i b : Nat), bs[i]? = some b → ρ (H.next + i) = some (ren b)) → VR ρ v2 v ∧ ∀ (i b : Nat) k2, bs[i]? = some b → ks[i]? = some k2 → ∃ k, H'.blk b = some k ∧ ABR ρ k2 k)) :
    ACd P f args H v2 (H.pushes ks) := by
  refine ac_gc h ?_
  rintro v H' ⟨hs, bs, hl, hnd, hge, hv⟩
  let ρ : Bt := fun b => bif Nat.blt b H.next then none else (bs[b - H.next]?).map ren
  have hρ : ∀ b, H.next ≤ b → ρ b = (bs[b - H.next]?).map ren := by
    intro b hb
    have : Nat.blt b H.next = false := by
      cases e : Nat.blt b H.next
      · rfl
      · exact absurd (show b < H.next by simpa [Nat.blt_eq] using e) (by omega)
    show (bif Nat.blt b H.next then none else _) = _
    rw [this]; rfl
  have hlo : ∀ b, b < H.next → ρ b = none := by
    intro b hb
    show (bif Nat.blt b H.next then none else _) = _
    rw [show Nat.blt b H.next = true from by simpa [Nat.blt_eq] using hb]; rfl
  obtain ⟨hv1, hv2⟩ := hv (keepB H.next ρ) (fun i b hb => by rw [keepB_ge _ (by omega), hρ _ (by omega), Nat.add_sub_cancel_left, hb]; rfl)
  refine ⟨v2, H.pushes ks, ρ, ⟨rfl, rfl⟩, ⟨?_, by rw [next_pushes]; omega, hv1, fun b hb => ?_, fun b hb => .inl (hs b hb), fun b h1 h2 => ?_, fun b h1 => ?_, fun b1 b2 c g1 g2 h1 h2 => ?_⟩⟩
  · intro b t hb
    rcases Nat.lt_or_ge b H.next with h1 | h1
    · rw [hlo b h1] at hb; cases hb
    · rw [hρ b h1] at hb
      obtain ⟨x, _, rfl⟩ := Option.map_eq_some_iff.mp hb
      exact ⟨x, rfl⟩
  · rw [blk_pushes_old _ _ _ hb]; exact (hs b hb).symm
  · rw [next_pushes] at h2
    obtain ⟨b', hb'⟩ : ∃ b', bs[b - H.next]? = some b' := ⟨_, List.getElem?_eq_getElem (by omega)⟩
    obtain ⟨k2, hk2⟩ : ∃ k2, ks[b - H.next]? = some k2 := ⟨_, List.getElem?_eq_getElem (by omega)⟩
    obtain ⟨k, hk, hab⟩ := hv2 _ _ _ hb' hk2
    refine ⟨b', k2, k, by rw [hρ b h1, hb']; rfl, hge _ _ hb', ?_, hk, hab⟩
    have := blk_pushes_new ks H _ _ hk2
    rwa [show H.next + (b - H.next) = b by omega] at this
  · rw [next_pushes] at h1
    rw [hρ b (by omega), List.getElem?_eq_none (by omega)]; rfl
  · rw [hρ b1 g1] at h1; rw [hρ b2 g2] at h2
    obtain ⟨x, hx, e1⟩ := Option.map_eq_some_iff.mp h1
    obtain ⟨y, hy, e2⟩ := Option.map_eq_some_iff.mp h2
    have e : x = y := by
      have := e1.trans e2.symm
      simp only [ren, Tgt.live.injEq] at this
      exact this.1
    subst e
    have := (List.getElem?_inj (List.getElem?_eq_some_iff.mp hx).1 hnd).mp (hx.trans hy.symm)
    omega

/-- A result that leads to two new blocks. -/
theorem ac_gc2 {P : Program} {f : FuncId} {args : List Value} {H : AHeap} {v2 : Value} {cs1 cs2 : List Value} {e1 e2 : Nat} (hl1 : ∀ β : Bt, VRL β cs1 cs1) (hl2 : ∀ β : Bt, VRL β cs2 cs2)
    (h : AC P f args H (fun v H' => Same H.next H H' ∧ ∃ b1 b2, H.next ≤ b1 ∧ H.next ≤ b2 ∧ b1 ≠ b2 ∧ H'.blk b1 = some (.cells cs1 e1) ∧ H'.blk b2 = some (.cells cs2 e2) ∧
      ∀ ρ : Bt, ρ H.next = some (ren b1) → ρ (H.next + 1) = some (ren b2) → VR ρ v2 v)) :
    ACd P f args H v2 ((H.push (.cells cs1 e1)).push (.cells cs2 e2)) := by
  refine ac_gcn (ks := [.cells cs1 e1, .cells cs2 e2]) (h.mono ?_)
  rintro v H' ⟨hs, b1, b2, h1, h2, hne, hk1, hk2, hv⟩
  refine ⟨hs, [b1, b2], rfl, by simp [hne], fun i b hb => ?_, fun ρ hρ => ⟨hv ρ (hρ 0 b1 rfl) (hρ 1 b2 rfl), fun i b k2 hb hk => ?_⟩⟩
  · match i with
    | 0 => simp at hb; subst hb; exact h1
    | 1 => simp at hb; subst hb; exact h2
    | i + 2 => simp at hb
  · match i with
    | 0 => simp at hb hk; subst hb hk; exact ⟨_, hk1, .cells (hl1 _)⟩
    | 1 => simp at hb hk; subst hb hk; exact ⟨_, hk2, .cells (hl2 _)⟩
    | i + 2 => simp at hb
end Go.AW
