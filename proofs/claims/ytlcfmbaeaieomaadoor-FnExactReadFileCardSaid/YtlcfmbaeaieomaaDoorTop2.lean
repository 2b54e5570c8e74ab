/- How a law's arguments are read. -/
import Derived.Test.YtlcfmbaeaieomaaDoorKinds
set_option linter.unusedVariables false
set_option linter.unusedSimpArgs false
namespace Go.AW
open Go Go.RowKit Go.ChangeShapes

theorem maxLen_le {n : Nat} (h : n ≤ maxLen) : n ≤ 9223372036854775807 := by unfold maxLen at h; omega

section
variable {α Hd : Type} {enc : TypeId × Value → Hd} {P : Program} {W : World} {base : Nat} {β : Bt} {H : AHeap}

/-- An argument that is a slice of elements that name no block. -/
theorem Emb.argSlice {t e : TypeId} {n : Nat} {el : α → List Value} {ok : α → Prop} (D : Dec P e n el ok) (ht : P.underlying t = some (.slice e)) (hn : 0 < n)
    {v : Value} {d : DataW Hd} {p : List MemPlace} (hv : Value.okWide P W .any base t v) (h : DataW.Trod enc P W 0 (fun _ => true) true t v d p) (hE : Emb β H W) :
    ∃ (β' : Bt) (H' : AHeap) (u : Value) (l : List α), Emb β' H' W ∧ Same H.next H H' ∧ H.next ≤ H'.next ∧ (∀ b s, β b = some s → β' b = some s ∨ β' b = some .stale) ∧ VR β' u v ∧ Sl H' el n u l ∧ l.length ≤ 9223372036854775807 ∧ ∀ x ∈ l, ok x := by
  obtain ⟨a, len, cap, rfl⟩ := WideShapes.okWide_slice ht hv
  obtain ⟨fuel, hf⟩ := h
  obtain ⟨β', H', u, l, h1, h2, h3, h4, h5, h6, h7, h8⟩ := Emb.slice D ht hn (by unfold Value.okWide at hv; rw [ht] at hv; exact hv) hf hE
  exact ⟨β', H', u, l, h1, h2, h3, h4, h5, h6, maxLen_le h7, h8⟩

/-- An argument that is a struct of a whole number and such a slice. -/
theorem Emb.argIS {t e : TypeId} {f0 f1 : Field} {k : IntKind} {n : Nat} {el : α → List Value} {ok : α → Prop} (D : Dec P e n el ok) (ht : P.underlying t = some (.struct #[f0, f1])) (h0 : P.underlying f0.type = some (.int k)) (c0 : P.cellsOf f0.type = 1)
    (h1 : P.underlying f1.type = some (.slice e)) (c1 : P.cellsOf f1.type = 1) (o0 : f0.offset = 0) (o1 : f1.offset = 1) (hc : P.cellsOf t = 2) (hct : P.cellTypes P.depth t = some [f0.type, f1.type]) (hn : 0 < n)
    {v : Value} {d : DataW Hd} {p : List MemPlace} (hv : Value.okWide P W .any base t v) (h : DataW.Trod enc P W 0 (fun _ => true) true t v d p) (hE : Emb β H W) :
    ∃ (L : Int) (v' : Value), v = .agg #[.int k L, v'] ∧ (Lit.int k L).wf = true ∧ ∃ (β' : Bt) (H' : AHeap) (u : Value) (l : List α), Emb β' H' W ∧ Same H.next H H' ∧ H.next ≤ H'.next ∧ (∀ b s, β b = some s → β' b = some s ∨ β' b = some .stale) ∧
      VR β' (.agg #[.int k L, u]) v ∧ Sl H' el n u l ∧ l.length ≤ 9223372036854775807 ∧ ∀ x ∈ l, ok x := by
  unfold Value.okWide at hv
  rw [ht] at hv
  obtain ⟨cs, rfl, hcs, ts, hts, _, hall⟩ := hv
  rw [hct] at hts; cases hts
  rw [hc] at hcs
  obtain ⟨fuel, hf⟩ := h
  obtain ⟨y0, y1, m, _, hl, q0, q1⟩ := trod_struct2 ht hf
  obtain ⟨x, v', rfl⟩ : ∃ x v', cs = #[x, v'] := by
    rcases cs with ⟨cs⟩
    match cs, hcs with
    | [x, y], _ => exact ⟨x, y, rfl⟩
  have e0 : (Value.agg #[x, v']).cells.toList = [x, v'] := rfl
  rw [e0, o0, c0] at q0
  rw [e0, o1, c1] at q1
  have q0' : DataW.trod enc P W 0 (fun _ => true) true m f0.type [x] = some y0 := q0
  have q1' : DataW.trod enc P W 0 (fun _ => true) true m f1.type [v'] = some y1 := q1
  obtain ⟨L, hL, wL⟩ := (dec_int (P := P) h0 c0).get q0'
  obtain rfl : x = .int k L := by simpa using hL
  have hv1 : Cell.okWide P W .any base f1.type v' := by
    obtain ⟨u, hu, hok⟩ := hall 1 v' rfl
    simp at hu; subst hu; exact hok
  obtain ⟨β', H', u, l, hE', hs, hle, hext, hV, hS, hm, hr⟩ := Emb.slice D h1 hn hv1 (d := y1.1) (p := y1.2) q1' hE
  exact ⟨L, v', rfl, wL, β', H', u, l, hE', hs, hle, hext, vr_agg2 (.int _ _) hV, hS, maxLen_le hm, hr⟩
end

theorem vrs1 {β : Bt} {a a' : Value} (h : VR β a a') : ∀ (i : Nat) u u', [a][i]? = some u → #[a'][i]? = some u' → VR β u u' := by
  intro i u u' hu hu'
  match i with
  | 0 => simp at hu hu'; subst hu hu'; exact h
  | i + 1 => simp at hu
theorem vrs2 {β : Bt} {a a' b b' : Value} (h : VR β a a') (k : VR β b b') : ∀ (i : Nat) u u', [a, b][i]? = some u → #[a', b'][i]? = some u' → VR β u u' := by
  intro i u u' hu hu'
  match i with
  | 0 => simp at hu hu'; subst hu hu'; exact h
  | 1 => simp at hu hu'; subst hu hu'; exact k
  | i + 2 => simp at hu
theorem vrs3 {β : Bt} {a a' b b' c c' : Value} (h : VR β a a') (k : VR β b b') (m : VR β c c') : ∀ (i : Nat) u u', [a, b, c][i]? = some u → #[a', b', c'][i]? = some u' → VR β u u' := by
  intro i u u' hu hu'
  match i with
  | 0 => simp at hu hu'; subst hu hu'; exact h
  | 1 => simp at hu hu'; subst hu hu'; exact k
  | 2 => simp at hu hu'; subst hu hu'; exact m
  | i + 3 => simp at hu
theorem vrs4 {β : Bt} {a a' b b' c c' d d' : Value} (h : VR β a a') (k : VR β b b') (m : VR β c c') (n : VR β d d') : ∀ (i : Nat) u u', [a, b, c, d][i]? = some u → #[a', b', c', d'][i]? = some u' → VR β u u' := by
  intro i u u' hu hu'
  match i with
  | 0 => simp at hu hu'; subst hu hu'; exact h
  | 1 => simp at hu hu'; subst hu hu'; exact k
  | 2 => simp at hu hu'; subst hu hu'; exact m
  | 3 => simp at hu hu'; subst hu hu'; exact n
  | i + 4 => simp at hu

/-- A whole number's bounds. -/
theorem wf_i64 {n : Int} (h : (Lit.int .i64 n).wf = true) : -9223372036854775808 ≤ n ∧ n ≤ 9223372036854775807 := by
  simp only [Lit.wf, Bool.and_eq_true, decide_eq_true_eq] at h; exact h
theorem wf_i16 {n : Int} (h : (Lit.int .i16 n).wf = true) : -32768 ≤ n ∧ n ≤ 32767 := by
  simp only [Lit.wf, Bool.and_eq_true, decide_eq_true_eq] at h; exact h
theorem wf_i8 {n : Int} (h : (Lit.int .i8 n).wf = true) : -128 ≤ n ∧ n ≤ 127 := by
  simp only [Lit.wf, Bool.and_eq_true, decide_eq_true_eq] at h; exact h

end Go.AW
