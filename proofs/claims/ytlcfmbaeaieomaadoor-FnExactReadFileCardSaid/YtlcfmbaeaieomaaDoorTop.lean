/- What stands at the start of a law, and how a law's answer follows from its contract. -/
import Derived.Test.YtlcfmbaeaieomaaDoorSli
import Derived.ChangeArms
import Derived.ChangeShapes
import Derived.ChangeSame
import Derived.WideShapes
import Derived.RowKit
import Derived.Below
set_option linter.unusedVariables false
set_option linter.unusedSimpArgs false
namespace Go.AW
open Go Go.RowKit Go.ChangeShapes

/-- What stands at the start: abstract blocks that are only read. -/
structure Emb (β : Bt) (H : AHeap) (W : World) : Prop where
  rel : HRel β H W
  ro : ∀ b B o S es, β b ≠ some (.live B o S es true)

def noH : AHeap := ⟨fun _ => none, 0, fun _ _ => rfl⟩

theorem Emb.start (W : World) (hg : ∀ g ∈ globs, globAt g W.heap[g]? := by intro g h; cases h) : Emb noB noH W :=
  ⟨⟨(fun _ _ _ _ _ _ h => by cases h), (fun _ h => by cases h), (fun _ _ _ _ _ _ _ _ _ _ _ h => by cases h), (fun _ _ => rfl), fun g h => ⟨hg g h, fun _ _ _ _ e => by cases e⟩⟩, (fun _ _ _ _ _ h => by cases h)⟩

theorem Emb.add {β : Bt} {H : AHeap} {W : World} (h : Emb β H W) {cs : List Value} {B o : Nat} {C : Array Value} {e : TypeId} {fz : Nat × Nat} (hB : W.heap[B]? = some (.cells C e fz))
    (hl : o + cs.length ≤ C.size) (hc : ∀ (i : Nat) x, cs[i]? = some x → C[o + i]? = some x) (hp : cs.all plain1 = true) (es : Nat) :
    Emb (β.set H.next (.live B o C.size es false)) (H.push (.ro cs)) W ∧ (∀ b t, β b = some t → β.set H.next (.live B o C.size es false) b = some t) := by
  have hd := h.rel.dom
  have hext : ∀ b t, β b = some t → β.set H.next (.live B o C.size es false) b = some t := by
    intro b t hb
    rw [Bt.set_ne]; exact hb
    rintro rfl
    rw [hd _ (Nat.le_refl _)] at hb; cases hb
  refine ⟨⟨⟨?_, ?_, ?_, ?_, h.rel.glob.of (fun _ _ _ => rfl) fun b g o' S' es' hb => by
    by_cases e1 : b = H.next
    · subst e1; rw [Bt.set_same] at hb; cases hb
    · rw [Bt.set_ne _ _ e1] at hb; exact .inl ⟨_, _, _, _, hb⟩⟩, ?_⟩, hext⟩
  · intro b B1 o1 S1 es1 own1 hb
    by_cases e1 : b = H.next
    · subst e1
      rw [Bt.set_same] at hb; cases hb
      refine ⟨.ro cs, blk_push_new _ _, C, e, fz, hB, rfl, hl, fun i x hx => ⟨x, hc i x hx, ?_⟩, rfl⟩
      exact VR.plain1 _ (by rw [List.all_eq_true] at hp; exact hp x (List.mem_of_getElem? hx))
    · rw [Bt.set_ne _ _ e1] at hb
      obtain ⟨k, hk, hr⟩ := h.rel.rel b B1 o1 S1 es1 own1 hb
      exact ⟨k, by rw [blk_push_ne e1]; exact hk, hr.mono (fun b t hb => .inl (hext b t hb)) rfl⟩
  · intro b hb
    by_cases e1 : b = H.next
    · subst e1; rw [Bt.set_same] at hb; cases hb
    · rw [Bt.set_ne _ _ e1] at hb; rw [blk_push_ne e1]; exact h.rel.stale b hb
  · intro b1 b2 B1 o1 S1 es1 own1 o2 S2 es2 own2 h1 h2 ho
    have no : ∀ b own o S es, β.set H.next (.live B o C.size es false) b = some (.live B1 o S es own) → own = false := by
      intro b own o' S' es' hb
      by_cases e1 : b = H.next
      · subst e1; rw [Bt.set_same] at hb; cases hb; rfl
      · rw [Bt.set_ne _ _ e1] at hb
        cases own with
        | false => rfl
        | true => exact absurd hb (h.ro _ _ _ _ _)
    have n1 : own1 = false := by
      by_cases e1 : b1 = H.next
      · subst e1; rw [Bt.set_same] at h1; cases h1; rfl
      · rw [Bt.set_ne _ _ e1] at h1
        cases own1 with
        | false => rfl
        | true => exact absurd h1 (h.ro _ _ _ _ _)
    have n2 : own2 = false := by
      by_cases e1 : b2 = H.next
      · subst e1; rw [Bt.set_same] at h2; cases h2; rfl
      · rw [Bt.set_ne _ _ e1] at h2
        cases own2 with
        | false => rfl
        | true => exact absurd h2 (h.ro _ _ _ _ _)
    rcases ho with ho | ho
    · rw [n1] at ho; cases ho
    · rw [n2] at ho; cases ho
  · intro b hb
    rw [next_push] at hb
    rw [Bt.set_ne _ _ (by omega)]
    exact hd b (by omega)
  · intro b B1 o1 S1 es1 hb
    by_cases e1 : b = H.next
    · subst e1; rw [Bt.set_same] at hb; cases hb
    · rw [Bt.set_ne _ _ e1] at hb; exact h.ro _ _ _ _ _ hb

/-- A law's answer, out of its contract. -/
theorem Emb.calls {P : Program} {f : FuncId} {args : List Value} {args' : Array Value} {β : Bt} {H H' : AHeap} {W : World} (h : Emb β H W)
    (hs : args'.size = args.length) (hv : ∀ (i : Nat) u u', args[i]? = some u → args'[i]? = some u' → VR β u u') (hc : ACd P f args H (.bool true) H') :
    Calls P f args' W fun e W' => e = .returned (.bool true) ∧ Below W.heap.size W W' := by
  refine (hc β args' W hs hv h.rel).mono ?_
  rintro e W' ⟨v', rfl, v, H1, β', ⟨rfl, rfl⟩, hvv, hh, hst, hn⟩
  refine ⟨by rw [hvv.bool_inv], hst.os, hst.tape, hst.output, hst.size, fun k hk => hst.block k hk fun b o S es => h.ro b k o S es⟩

/-- How elements that name no block are read. -/
structure Dec {α : Type} (P : Program) (t : TypeId) (n : Nat) (e : α → List Value) (ok : α → Prop) : Prop where
  len : ∀ x, (e x).length = n
  cells : P.cellsOf t = n
  plain : ∀ x, (e x).all plain1 = true
  get : ∀ {H : Type} {enc : TypeId × Value → H} {w : World} {base : Nat} {sp : Nat → Bool} {held : Bool} {fuel : Nat} {cs : List Value} {x : DataW H × List MemPlace},
    DataW.trod enc P w base sp held fuel t cs = some x → ∃ a, cs = e a ∧ ok a

theorem dec_int {P : Program} {t : TypeId} {k : IntKind} (ht : P.underlying t = some (.int k)) (hc : P.cellsOf t = 1) : Dec P t 1 (fun n : Int => [.int k n]) (fun n => (Lit.int k n).wf = true) where
  len _ := rfl
  cells := hc
  plain _ := rfl
  get {H enc w base sp held fuel cs x} h := by
    cases fuel with
    | zero => simp [DataW.trod] at h
    | succ n =>
      unfold DataW.trod at h
      rw [ht] at h
      split at h <;> simp_all

theorem dec_bool {P : Program} {t : TypeId} (ht : P.underlying t = some .bool) (hc : P.cellsOf t = 1) : Dec P t 1 (fun b : Bool => [.bool b]) (fun _ => True) where
  len _ := rfl
  cells := hc
  plain _ := rfl
  get {H enc w base sp held fuel cs x} h := by
    cases fuel with
    | zero => simp [DataW.trod] at h
    | succ n =>
      unfold DataW.trod at h
      rw [ht] at h
      split at h <;> simp_all

theorem dec_struct2 {α β γ : Type} {P : Program} {t : TypeId} {f0 f1 : Field} {n0 n1 : Nat} {e0 : α → List Value} {e1 : β → List Value} {ok0 : α → Prop} {ok1 : β → Prop} {e : γ → List Value} {mk : α → β → γ} {ok : γ → Prop}
    (ht : P.underlying t = some (.struct #[f0, f1])) (D0 : Dec P f0.type n0 e0 ok0) (D1 : Dec P f1.type n1 e1 ok1) (hc : P.cellsOf t = n0 + n1) (h0 : f0.offset = 0) (h1 : f1.offset = n0)
    (he : ∀ a b, e (mk a b) = e0 a ++ e1 b) (hs : ∀ c, ∃ a b, c = mk a b) (hok : ∀ a b, ok0 a → ok1 b → ok (mk a b)) : Dec P t (n0 + n1) e ok where
  len x := by obtain ⟨a, b, rfl⟩ := hs x; rw [he, List.length_append, D0.len, D1.len]
  cells := hc
  plain x := by obtain ⟨a, b, rfl⟩ := hs x; rw [he, List.all_append, D0.plain, D1.plain]; rfl
  get {H enc w base sp held fuel cs x} h := by
    obtain ⟨y0, y1, n, _, hl, q0, q1⟩ := trod_struct2 ht h
    rw [h0, D0.cells, List.drop_zero] at q0
    rw [h1, D1.cells] at q1
    obtain ⟨a, ha, oa⟩ := D0.get q0
    obtain ⟨b, hb, ob⟩ := D1.get q1
    refine ⟨mk a b, ?_, hok a b oa ob⟩
    rw [he, ← ha, ← hb]
    rw [hc] at hl
    rw [List.take_of_length_le (l := cs.drop n0) (by rw [List.length_drop]; omega), List.take_append_drop]

theorem cells_at {w : World} {b o n : Nat} {cs : List Value} (h : w.cells? 0 ⟨b, o, none⟩ n = some cs) {C : Array Value} {e : TypeId} {fz : Nat × Nat} (hB : w.heap[b]? = some (.cells C e fz)) :
    cs.length = n ∧ ∀ (i : Nat) x, cs[i]? = some x → C[o + i]? = some x := by
  obtain ⟨_, h1, h2⟩ := World.cells?_some h
  refine ⟨h1, fun i x hx => ?_⟩
  have hi : i < n := by rw [← h1]; exact (List.getElem?_eq_some_iff.mp hx).1
  have := h2 i hi
  rw [hx, add_none rfl, cell_of hB] at this
  exact this

/-- A slice that comes in: its elements, and an abstract block of its own for them. -/
theorem Emb.slice {α Hd : Type} {enc : TypeId × Value → Hd} {P : Program} {t e : TypeId} {n : Nat} {el : α → List Value} {ok : α → Prop} (D : Dec P e n el ok) (ht : P.underlying t = some (.slice e)) (hn : 0 < n)
    {W : World} {base : Nat} {v : Value} {d : DataW Hd} {p : List MemPlace} (hv : Cell.okWide P W .any base t v) {fuel : Nat} (h : DataW.trod enc P W 0 (fun _ => true) true fuel t [v] = some (d, p))
    {β : Bt} {H : AHeap} (hE : Emb β H W) :
    ∃ (β' : Bt) (H' : AHeap) (u : Value) (l : List α), Emb β' H' W ∧ Same H.next H H' ∧ H.next ≤ H'.next ∧ (∀ b s, β b = some s → β' b = some s ∨ β' b = some .stale) ∧ VR β' u v ∧ Sl H' el n u l ∧ l.length ≤ maxLen ∧ ∀ x ∈ l, ok x := by
  rcases DataW.trod_slice ht h with ⟨hcs, _⟩ | ⟨a, len, cap, elems, rest, fu, _, hcs, _, _, hl, hm, hlen, hel, _, _⟩
  · obtain rfl : v = .slice none 0 0 := by simpa using hcs
    exact ⟨β, H, .slice none 0 0, [], hE, Same.refl _ _, Nat.le_refl _, fun b s hb => .inl hb, .sliceNil, Sl.nil, by simp, by simp⟩
  · obtain rfl : v = .slice (some a) len cap := by simpa using hcs
    have hok : a.spot = none ∧ ∃ C et fz, W.heap[a.block]? = some (.cells C et fz) := by
      unfold Cell.okWide at hv
      rw [ht] at hv
      simp only [Cell.ok, ht] at hv
      obtain ⟨_, _, _, hsp, row, cells, hsh, _⟩ := hv
      refine ⟨hsp, ?_⟩
      unfold World.shape? at hsh
      split at hsh
      · rename_i c el' fz hq; exact ⟨c, el', fz, hq⟩
      · cases hsh
    obtain ⟨hsp, C, et, fz, hB⟩ := hok
    obtain ⟨b, o, sp⟩ := a
    obtain rfl : sp = none := hsp
    rw [D.cells] at hel
    -- the elements
    have key : ∀ m, m ≤ len → ∃ l : List α, l.length = m ∧ (∀ x ∈ l, ok x) ∧ (l = [] ∨ o + m * n ≤ C.size) ∧ ∀ i x, (fl el l)[i]? = some x → C[o + i]? = some x := by
      intro m
      induction m with
      | zero => exact fun _ => ⟨[], rfl, by simp, .inl rfl, by simp [fl]⟩
      | succ m ih =>
        intro hm'
        obtain ⟨l, hl1, hl2, hl3, hl4⟩ := ih (by omega)
        have q := hel m (by omega)
        obtain ⟨y, hy⟩ : ∃ y, elems[m]? = some y := get_lt (by omega)
        rw [hy, Option.bind_eq_some_iff] at q
        obtain ⟨cs, hcs1, hcs2⟩ := q
        rw [add_none rfl] at hcs1
        obtain ⟨z, rfl, hz⟩ := D.get hcs2
        obtain ⟨c1, c2⟩ := cells_at hcs1 hB
        refine ⟨l ++ [z], by simp [hl1], ?_, .inr ?_, ?_⟩
        · intro x hx
          rcases List.mem_append.mp hx with hx | hx
          · exact hl2 x hx
          · rw [List.mem_singleton.mp hx]; exact hz
        · obtain ⟨u, hu⟩ : ∃ u, (el z)[n - 1]? = some u := get_lt (by omega)
          have := (Array.getElem?_eq_some_iff.mp (c2 _ _ hu)).1
          rw [Nat.succ_mul]
          simp only at this ⊢
          omega
        · intro i x hx
          rw [fl_snoc, List.getElem?_append] at hx
          split at hx
          · exact hl4 i x hx
          · rename_i hge
            have hfl : (fl el l).length = m * n := by rw [fl_len D.len, hl1]
            rw [hfl] at hx hge
            have := c2 _ _ hx
            simp only at this
            rwa [show o + m * n + (i - m * n) = o + i by omega] at this
    obtain ⟨l, hl1, hl2, hl3, hl4⟩ := key len (Nat.le_refl _)
    by_cases h0 : l = []
    · subst h0
      obtain rfl : len = 0 := by simpa using hl1.symm
      obtain ⟨e1, e2⟩ := hE.add (cs := []) (o := 0) hB (by simp) (by simp) rfl n
      refine ⟨_, _, .slice (some ⟨H.next, o, none⟩) 0 1, [], e1, (Same.refl _ _).push (Nat.le_refl _) _, by rw [next_push]; omega, fun b s hb => .inl (e2 b s hb), .slice ⟨rfl, rfl, by omega, fun e => by omega, _, Bt.set_same _ _ _, ?_⟩, Sl.zero, by simp, by simp⟩
      intro B o1 S es own he
      cases he
      exact ⟨rfl, .inr ⟨by simp, fun e => by cases e⟩, fun h => by omega⟩
    · have hl3' := hl3.resolve_left h0
      have hfl : (fl el l).length = len * n := by rw [fl_len D.len, hl1]
      obtain ⟨e1, e2⟩ := hE.add (cs := fl el l) (o := o) hB (by rw [hfl]; exact hl3') hl4 (by
        rw [List.all_eq_true]
        intro x hx
        obtain ⟨z, hz, hxz⟩ := List.mem_flatMap.mp hx
        exact List.all_eq_true.mp (D.plain z) x hxz) n
      refine ⟨_, _, .slice (some ⟨H.next, 0, none⟩) len (len + 1), l, e1, (Same.refl _ _).push (Nat.le_refl _) _, by rw [next_push]; omega, fun b s hb => .inl (e2 b s hb), .slice ⟨rfl, rfl, hl, fun e => by omega, _, Bt.set_same _ _ _, ?_⟩,
        Sl.full D.len (blk_push_new _ _) rfl rfl hl1.symm, by omega, hl2⟩
      intro B o1 S es own he
      cases he
      exact ⟨rfl, .inr ⟨by simp, fun e => by cases e⟩, fun h => by omega⟩

end Go.AW
