/- The rules for append. -/
import Derived.Test.YtmmmjdbknepjgaaDoorMem3
import Derived.Laws.CopyRow
namespace Go.AW
open Go
set_option linter.unusedVariables false
set_option linter.unusedSimpArgs false

/-- What an appended operand holds. -/
def Src (H : AHeap) (size : Nat) (xv : Value) (m : Nat) (news : List Value) : Prop :=
  (xv = .slice none 0 0 ∧ m = 0 ∧ news = []) ∨
  ∃ b o c k cs, xv = .slice (some ⟨b, o, none⟩) m c ∧ ((m = 0 ∧ news = []) ∨ (H.blk b = some k ∧ k.rd = some cs ∧ o + m * size ≤ cs.length ∧ news = (cs.drop o).take (m * size)))

theorem src_nil {H : AHeap} {size : Nat} : Src H size (.slice none 0 0) 0 [] := .inl ⟨rfl, rfl, rfl⟩
theorem src_all {H : AHeap} {size b m c : Nat} {k : ABlk} {cs : List Value} (hk : H.blk b = some k) (hr : k.rd = some cs) (hl : cs.length = m * size) : Src H size (.slice (some ⟨b, 0, none⟩) m c) m cs :=
  .inr ⟨b, 0, c, k, cs, rfl, .inr ⟨hk, hr, by omega, by rw [List.drop_zero, List.take_of_length_le (by omega)]⟩⟩
theorem src_part {H : AHeap} {size b o m c : Nat} {k : ABlk} {cs : List Value} (hk : H.blk b = some k) (hr : k.rd = some cs) (hl : o + m * size ≤ cs.length) : Src H size (.slice (some ⟨b, o, none⟩) m c) m ((cs.drop o).take (m * size)) :=
  .inr ⟨b, o, c, k, cs, rfl, .inr ⟨hk, hr, hl, rfl⟩⟩
theorem src_none {H : AHeap} {size b o c : Nat} : Src H size (.slice (some ⟨b, o, none⟩) 0 c) 0 [] := .inr ⟨b, o, c, .map [], [], rfl, .inl ⟨rfl, rfl⟩⟩

theorem Src.cells {P : Program} {H : AHeap} {β : Bt} {w : World} (hh : HRel β H w) {size m : Nat} {xv xv' : Value} {news : List Value} (h : Src H size xv m news) (hv : VR β xv xv') :
    news.length = m * size ∧ ∃ (ao : Option Addr) (c' : Nat) (N : List Value), xv' = .slice ao m c' ∧ VRL β news N ∧ (Builtin.firstCells size m xv').run P w = .ok N.toArray w := by
  rcases h with ⟨rfl, rfl, rfl⟩ | ⟨b, o, c, k, cs, rfl, h⟩
  · rw [hv.nil_inv]
    exact ⟨by simp, none, 0, [], rfl, VRL.nil _, by simp [Builtin.firstCells, go_sem]⟩
  · obtain ⟨a', c', rfl, hS⟩ := hv.slice_inv
    by_cases h0 : m * size = 0
    · have hn : news = [] := by
        rcases h with ⟨_, hn⟩ | ⟨_, _, _, hn⟩
        · exact hn
        · rw [hn, h0]; rfl
      subst hn
      exact ⟨by simp [h0], _, c', [], rfl, VRL.nil _, by simp [Builtin.firstCells, h0, loadCells, loadCellsFrom, go_sem]⟩
    · have hm : 0 < m := Nat.pos_of_ne_zero fun e => h0 (by rw [e]; simp)
      rcases h with ⟨e, _⟩ | ⟨hk, hr, hl, hn⟩
      · omega
      · obtain ⟨B, off, S, es, own, h2, rfl, hb⟩ := hh.at (hS.addr hm) hk
        obtain ⟨C, e, fz, h3, h4, h5, h6⟩ := hb.rd hr
        have hlen : news.length = m * size := by rw [hn, List.length_take, List.length_drop]; omega
        have hl' : (loadCells ⟨B, off + o, none⟩ (m * size)).run P w = .ok (C.extract (off + o) (off + o + m * size)) w := run_loadCells h3 _ (by omega)
        refine ⟨hlen, _, c', (C.extract (off + o) (off + o + m * size)).toList, rfl, ⟨?_, ?_⟩, by rw [Array.toArray_toList]; exact hl'⟩
        · rw [hlen]; simp; omega
        · intro i u u' hu hu'
          rw [hn] at hu
          simp only [List.getElem?_take, List.getElem?_drop] at hu
          simp only [Array.getElem?_toList, Array.getElem?_extract] at hu'
          split at hu
          · obtain ⟨y, hy, hV⟩ := h6 (o + i) u hu
            split at hu'
            · rw [← Nat.add_assoc] at hy; rw [hy] at hu'; cases hu'; exact hV
            · cases hu'
          · cases hu

theorem VRL.ones {β : Bt} {xs ys : List Value} (h : VRL β xs ys) (ho : xs.all isOne = true) : ∀ y ∈ ys, isOne y = true := by
  intro y hy
  obtain ⟨i, hi, rfl⟩ := List.mem_iff_getElem.1 hy
  have hix : i < xs.length := by rw [h.1]; exact hi
  refine (h.2 i xs[i] ys[i] (List.getElem?_eq_getElem hix) (List.getElem?_eq_getElem hi)).one ?_
  exact List.all_eq_true.1 ho _ (List.getElem_mem hix)

section
variable {P : Program}

/-- append: nothing is appended. -/
theorem run_app_fits {t tx ty e : TypeId} {i : TypeInfo} {w w' : World} (ht : P.underlying t = some (.slice e)) (htx : ∃ e2, P.underlying tx = some (.slice e2)) (hi : P.info? e = some i)
    {a : Option Addr} {n c m cx : Nat} {ax : Option Addr} {N : Array Value} (hf : (Builtin.firstCells i.size m (.slice ax m cx)).run P w = .ok N w) (hroom : n + m ≤ c)
    (hst : ∀ ad, a = some ad → (storeCells (ad.add (n * i.size)) N.toList).run P w = .ok () w') (hno : a = none → w' = w) :
    (Builtin.append_ #[t, tx] ty #[.slice a n c, .slice ax m cx]).run P w = .ok (.slice a (n + m) c) w' := by
  obtain ⟨e2, htx⟩ := htx
  cases a with
  | none => simp [Builtin.append_, run_underlying ht, run_underlying htx, sizeOf, typeInfo, hi, Builtin.lenOf, hroom, hf, hno rfl]
  | some ad => simp [Builtin.append_, run_underlying ht, run_underlying htx, sizeOf, typeInfo, hi, Builtin.lenOf, hroom, hf, hst ad rfl]

/-- append: a new array. -/
theorem run_app_grow {t tx ty e : TypeId} {i : TypeInfo} {z : Value} {w : World} (ht : P.underlying t = some (.slice e)) (htx : ∃ e2, P.underlying tx = some (.slice e2)) (hi : P.info? e = some i) (hz : i.zero = some z)
    {a : Option Addr} {n c m cx : Nat} {ax : Option Addr} {N O : Array Value} (hf : (Builtin.firstCells i.size m (.slice ax m cx)).run P w.drew = .ok N w.drew) (ho : (Builtin.firstCells i.size n (.slice a n c)).run P w.drew = .ok O w.drew)
    (hg : c < n + m) (h63 : ((n + m : Nat) : Int) ≤ 9223372036854775807) (hby : (n + m) * i.bytes ≤ 140737488355328) :
    (Builtin.append_ #[t, tx] ty #[.slice a n c, .slice ax m cx]).run P w =
      .ok (.slice (some ⟨w.heap.size, 0, none⟩) (n + m) (grownCap w (n + m) c e)) (w.drew.alloc (.cells (O ++ N ++ Builtin.zeroCells z.cells (grownCap w (n + m) c e - (n + m))) e)) := by
  obtain ⟨e2, htx⟩ := htx
  have hn : ¬ (n + m ≤ c) := by omega
  have h63' : ¬ (9223372036854775807 < ((n : Int) + (m : Int))) := by omega
  have hfit := growslice_fits (bytes := i.bytes) hg hby
  have h48' : ¬ (281474976710656 < Builtin.nextslicecap (n + m) c * i.bytes) := by omega
  simp [Builtin.append_, run_underlying ht, run_underlying htx, sizeOf, typeInfo, zeroValue, hi, hz, Builtin.lenOf, hn, h63', h48', Question.forced, hf, ho, newRow, grownCap]
end

theorem size_zeroCells' (z : Array Value) (n : Nat) : (Builtin.zeroCells z n).size = n * z.size := by simp [Builtin.zeroCells]

section
variable {P : Program} {Q : Exit → AFr → AHeap → Prop} {fr : AFr} {H H' : AHeap} {ρ : Operand → Value} {g : Option (Nat × Bool)} {d : Option Tmp} {ty : TypeId} {pos : String} {aft : Array Edge}

theorem drew_step (n : Nat) (β : Bt) (w : World) : Step n β w β w.drew := Step.drew n β w

/-- The element's type: its zero value, its cells, its bytes. -/
def Elem (P : Program) (e : TypeId) (size bytes : Nat) : Prop := ∃ i z, P.info? e = some i ∧ i.zero = some z ∧ i.size = size ∧ i.bytes = bytes ∧ z.cells.size = size

theorem app_run {ρ' : Operand → Value} {s x : Operand} {t tx : TypeId} {w w' : World} {v : Value} (h : (Builtin.append_ #[t, tx] ty #[ρ' s, ρ' x]).run P w = .ok v w') :
    (execOp ρ' ⟨d, .call ⟨.builtin .append, #[s, x], #[t, tx]⟩, ty, pos, aft, g⟩).run P w = .ok (.value v) w' := by
  have : (execOp ρ' ⟨d, .call ⟨.builtin .append, #[s, x], #[t, tx]⟩, ty, pos, aft, g⟩).run P w = ((Builtin.append_ #[t, tx] ty #[ρ' s, ρ' x]).run P w).andThen fun v w => .ok (.value v) w := by
    simp only [execOp, resolve]
    rw [Sem.run_bind]
    simp only [Sem.run_pure, Result.andThen_ok, invoke, builtin, List.map_toArray, List.map_cons, List.map_nil]
    rw [Sem.run_bind]
    rfl
  rw [this, h]; rfl

/-- A new array that holds olds and news. -/
theorem app_new {β : Bt} {w : World} (hh : HRel β H w) {olds news : List Value} {O N Z : Array Value} {e : TypeId} {size n c' : Nat} (ho : VRL β olds O.toList) (hn : VRL β news N.toList)
    (hlen : (olds ++ news).length = n * size) (hc : n ≤ c') (hZ : Z.size = (c' - n) * size) :
    Out H.next β w (fun v1 H1 => v1 = .slice (some ⟨H.next, 0, none⟩) n (n + 1) ∧ H1 = H.push (.cells (olds ++ news) size)) (.slice (some ⟨w.heap.size, 0, none⟩) n c') (w.drew.alloc (.cells (O ++ N ++ Z) e)) := by
  have hon := ho.append hn
  have hsz : (O ++ N ++ Z).size = c' * size := by
    have h1 := hon.1
    rw [hlen] at h1
    simp only [List.length_append, Array.length_toList] at h1
    simp only [Array.size_append]
    rw [hZ, ← h1, ← Nat.add_mul]; congr 1; omega
  obtain ⟨k1, k2⟩ := (HRel.drew hh).alloc (k := .cells (olds ++ news) size) (o := .cells (O ++ N ++ Z) e) (S := (O ++ N ++ Z).size) (es := size) (by
    intro β' hb
    refine ⟨O ++ N ++ Z, e, (0, 0), by show (w.heap.push _)[w.heap.size]? = _; simp, rfl, ?_, ?_, rfl, rfl, rfl⟩
    · have h1 := hon.1
      simp only [List.length_append, Array.length_toList] at h1
      simp only [List.length_append, Array.size_append]; omega
    · intro i x hx
      obtain ⟨y, hy, hv⟩ := (hon.mono hb).get hx
      refine ⟨y, ?_, hv⟩
      have hlt : i < (O ++ N).size := by
        have := (List.getElem?_eq_some_iff.1 hy).1
        simpa using this
      rw [Nat.zero_add, Array.getElem?_append_left hlt]
      rw [← Array.getElem?_toList, Array.toList_append]; exact hy)
  refine ⟨_, _, _, ⟨rfl, rfl⟩, .slice ⟨rfl, rfl, hc, fun h => by omega, _, Bt.set_same _ _ _, fun B o S es own h => ?_⟩, k1, (Step.drew _ _ _).trans k2 (Nat.le_refl _), by show H.next ≤ H.next + 1; omega⟩
  cases h
  exact ⟨rfl, .inr ⟨rfl, fun _ => by rw [hsz]; simp⟩, fun h => by omega⟩

/-- append onto nil. -/
theorem ao_appN {t tx e : TypeId} {s x : Operand} {m size bytes : Nat} {xv : Value} {news : List Value} (ht : P.underlying t = some (.slice e)) (htx : ∃ e2, P.underlying tx = some (.slice e2)) (he : Elem P e size bytes)
    (hs : ρ s = .slice none 0 0) (hx : ρ x = xv) (hsrc : Src H size xv m news) (h0 : 0 < m) (h63 : m ≤ 9223372036854775807) (hby : m * bytes ≤ 140737488355328) :
    AOd P ⟨d, .call ⟨.builtin .append, #[s, x], #[t, tx]⟩, ty, pos, aft, g⟩ ρ H (.slice (some ⟨H.next, 0, none⟩) m (m + 1)) (H.push (.cells news size)) := by
  intro β ρ' w h hh
  have q1 := h s (by simp [Op.operands, Call.operands]); rw [hs] at q1
  have q2 := h x (by simp [Op.operands, Call.operands]); rw [hx] at q2
  obtain ⟨i, z, hi, hz, rfl, rfl, hzs⟩ := he
  obtain ⟨hl, ao, c', N, hxv, hN, hrun⟩ := hsrc.cells (P := P) hh.drew q2
  rw [hxv] at hrun
  have hr := run_app_grow (ty := ty) (w := w) (n := 0) (c := 0) (a := none) (O := #[]) ht htx hi hz hrun (by simp [Builtin.firstCells, go_sem]) (by omega) (by omega) (by simpa using hby)
  simp only [Nat.zero_add, Array.empty_append] at hr
  refine gives_value (app_run (v := .slice (some ⟨w.heap.size, 0, none⟩) m (grownCap w m 0 e)) (by rw [q1.nil_inv, hxv]; exact hr)) ?_
  have := app_new (n := m) (size := i.size) (e := e) (c' := grownCap w m 0 e) (olds := []) (news := news) (O := #[]) (N := N.toArray) (Z := Builtin.zeroCells z.cells (grownCap w m 0 e - m)) hh (VRL.nil _) hN (by simpa using hl) (grownCap_ge _ _ _ _)
    (by rw [size_zeroCells', hzs])
  simpa using this

/-- append onto a slice without room. -/
theorem ao_appE {t tx e : TypeId} {s x : Operand} {b o n m size bytes : Nat} {xv : Value} {news cs : List Value} {k : ABlk} (ht : P.underlying t = some (.slice e)) (htx : ∃ e2, P.underlying tx = some (.slice e2)) (he : Elem P e size bytes)
    (hs : ρ s = .slice (some ⟨b, o, none⟩) n n) (hx : ρ x = xv) (hold : (n = 0 ∧ cs = []) ∨ (H.blk b = some k ∧ k.rd = some cs ∧ o = 0 ∧ cs.length = n * size)) (hsrc : Src H size xv m news) (h0 : 0 < m) (h63 : n + m ≤ 9223372036854775807) (hby : (n + m) * bytes ≤ 140737488355328) :
    AOd P ⟨d, .call ⟨.builtin .append, #[s, x], #[t, tx]⟩, ty, pos, aft, g⟩ ρ H (.slice (some ⟨H.next, 0, none⟩) (n + m) (n + m + 1)) (H.push (.cells (cs ++ news) size)) := by
  intro β ρ' w h hh
  have q1 := h s (by simp [Op.operands, Call.operands]); rw [hs] at q1
  have q2 := h x (by simp [Op.operands, Call.operands]); rw [hx] at q2
  obtain ⟨i, z, hi, hz, rfl, rfl, hzs⟩ := he
  obtain ⟨hl, ao, c', N, hxv, hN, hrun⟩ := hsrc.cells (P := P) hh.drew q2
  rw [hxv] at hrun
  have hso : Src H i.size (.slice (some ⟨b, o, none⟩) n n) n cs := by
    rcases hold with ⟨rfl, rfl⟩ | ⟨h1, h2, rfl, h3⟩
    · exact src_none
    · exact src_all h1 h2 h3
  obtain ⟨hlo, aO, cO, O, hsv, hO, hrunO⟩ := hso.cells (P := P) hh.drew q1
  obtain ⟨a1, c1, e1, hS⟩ := q1.slice_inv
  rw [hsv] at e1; cases e1
  have hcn : cO = n := hS.2.2.2.1 rfl
  subst hcn
  rw [hsv] at hrunO
  have hr := run_app_grow (ty := ty) (w := w) (n := cO) (c := cO) (a := some a1) ht htx hi hz hrun hrunO (by omega) (by omega) hby
  refine gives_value (app_run (v := .slice (some ⟨w.heap.size, 0, none⟩) (cO + m) (grownCap w (cO + m) cO e)) (by rw [hsv, hxv]; exact hr)) ?_
  exact app_new hh hO hN (by rw [List.length_append, hlo, hl, Nat.add_mul]) (grownCap_ge _ _ _ _) (by rw [size_zeroCells', hzs])

/-- append of nothing. -/
theorem ao_app0 {t tx e : TypeId} {s x : Operand} {size bytes : Nat} {xv sv : Value} (ht : P.underlying t = some (.slice e)) (htx : ∃ e2, P.underlying tx = some (.slice e2)) (he : Elem P e size bytes)
    (hs : ρ s = sv) (hsv : sv = .slice none 0 0 ∨ ∃ b o n c, sv = .slice (some ⟨b, o, none⟩) n c) (hx : ρ x = xv) (hsrc : Src H size xv 0 []) :
    AOd P ⟨d, .call ⟨.builtin .append, #[s, x], #[t, tx]⟩, ty, pos, aft, g⟩ ρ H sv H :=
  AO.pure fun β ρ' w h hh => by
    have q1 := h s (by simp [Op.operands, Call.operands]); rw [hs] at q1
    have q2 := h x (by simp [Op.operands, Call.operands]); rw [hx] at q2
    obtain ⟨i, z, hi, hz, rfl, rfl, hzs⟩ := he
    obtain ⟨hl, ao, c', N, hxv, hN, hrun⟩ := hsrc.cells (P := P) hh q2
    have hN0 : N = [] := List.eq_nil_of_length_eq_zero (by rw [← hN.1]; simp)
    subst hN0
    rw [hxv] at hrun
    refine ⟨ρ' s, app_run ?_, q1⟩
    rcases hsv with rfl | ⟨b, o, n, c, rfl⟩
    · rw [q1.nil_inv, hxv]
      exact run_app_fits (a := none) (n := 0) (c := 0) ht htx hi hrun (by omega) (fun ad e => by cases e) (fun _ => rfl)
    · obtain ⟨a1, c1, e1, hS⟩ := q1.slice_inv
      rw [e1, hxv]
      exact run_app_fits (a := some a1) (n := n) (c := c1) ht htx hi hrun (by have := hS.2.2.1; omega) (fun ad e => by simp [storeCells, go_sem]) (fun e => by cases e)
end
end Go.AW
/- The rules for append onto a slice of one's own. -/
namespace Go.AW
open Go
set_option linter.unusedVariables false
set_option linter.unusedSimpArgs false

theorem ext_stale {β : Bt} (b : Nat) : ∀ c u, β c = some u → β.set b .stale c = some u ∨ β.set b .stale c = some .stale := by
  intro c u hc
  by_cases e : c = b
  · subst e; exact .inr (Bt.set_same _ _ _)
  · exact .inl (by rw [Bt.set_ne _ _ e]; exact hc)

/-- A block that nobody looks at any more. -/
theorem HRel.kill {β : Bt} {H : AHeap} {w : World} (h : HRel β H w) {b B o S es : Nat} {own : Bool} (hb : β b = some (.live B o S es own)) :
    HRel (β.set b .stale) (H.kill b) w ∧ Step H.next β w (β.set b .stale) w := by
  have hlt : b < H.next := by
    rcases Nat.lt_or_ge b H.next with h1 | h1
    · exact h1
    · rw [h.dom b h1] at hb; cases hb
  have back : ∀ {c t}, β.set b .stale c = some t → t ≠ .stale → c ≠ b ∧ β c = some t := by
    intro c t hc ht
    by_cases e : c = b
    · subst e; rw [Bt.set_same] at hc; cases hc; exact absurd rfl ht
    · rw [Bt.set_ne _ _ e] at hc; exact ⟨e, hc⟩
  refine ⟨⟨fun c C o' S' es' own' hc => ?_, fun c hc => ?_, fun b1 b2 B1 o1 S1 es1 own1 o2 S2 es2 own2 h1 h2 ho => ?_, fun c hc => ?_, h.glob.of (fun _ _ _ => rfl) fun c g o' S' es' hc => .inl ⟨c, o', S', es', (back hc (by simp)).2⟩⟩, ⟨ext_stale b, fun c hc hn => ?_, fun c C o' S' es' hc => ?_, fun c C o' S' es' hc => ?_, rfl, rfl, rfl, Nat.le_refl _, fun _ _ _ => rfl⟩⟩
  · obtain ⟨e, hc'⟩ := back hc (by simp)
    obtain ⟨k, hk, hr⟩ := h.rel c C o' S' es' own' hc'
    exact ⟨k, by rw [blk_kill_ne e]; exact hk, hr.mono (ext_stale b) rfl⟩
  · by_cases e : c = b
    · subst e; exact blk_kill_same _ _
    · rw [blk_kill_ne e]; rw [Bt.set_ne _ _ e] at hc; exact h.stale c hc
  · exact h.inj b1 b2 B1 o1 S1 es1 own1 o2 S2 es2 own2 (back h1 (by simp)).2 (back h2 (by simp)).2 ho
  · rw [Bt.set_ne _ _ (by have : H.next ≤ c := hc; omega)]; exact h.dom c hc
  · have e : c ≠ b := by intro e; subst e; rw [hb] at hn; cases hn
    rw [Bt.set_ne _ _ e]; exact hn
  · exact .inl ⟨c, o', S', es', (back hc (by simp)).2⟩
  · exact (back hc (by simp)).2

/-- A block of the world that has no name is given one. -/
theorem HRel.claim {β : Bt} {H : AHeap} {w w' : World} (h : HRel β H w) {B o S es : Nat} {cs : List Value} {C : Array Value} {e : TypeId} (hfree : ∀ b o1 S1 es1 own, β b ≠ some (.live B o1 S1 es1 own))
    (hB : w'.heap[B]? = some (.cells C e (0, 0))) (hS : C.size = S) (hl : o + cs.length ≤ S) (hv : ∀ (i : Nat) x, cs[i]? = some x → ∃ y, C[o + i]? = some y ∧ VR β x y)
    (hoth : ∀ k, k ≠ B → w'.heap[k]? = w.heap[k]?) (hgl : Glob (β.set H.next (.live B o S es true)) w') : HRel (β.set H.next (.live B o S es true)) (H.push (.cells cs es)) w' := by
  have hext := ext_set (t := .live B o S es true) h.dom
  refine ⟨fun b B' o' S' es' own hb => ?_, fun b hb => ?_, fun b1 b2 B1 o1 S1 es1 own1 o2 S2 es2 own2 h1 h2 ho => ?_, fun b hb => ?_, hgl⟩
  · by_cases hn : b = H.next
    · subst hn
      rw [Bt.set_same] at hb
      cases hb
      refine ⟨_, blk_push_new _ _, C, e, (0, 0), hB, hS, hl, fun i x hx => ?_, rfl, rfl, rfl⟩
      obtain ⟨y, hy, hxy⟩ := hv i x hx
      exact ⟨y, hy, hxy.mono hext⟩
    · rw [Bt.set_ne _ _ hn] at hb
      obtain ⟨k', hk', hr⟩ := h.rel b B' o' S' es' own hb
      refine ⟨k', blk_push_old hk', hr.mono hext (hoth _ fun e => ?_)⟩
      subst e; exact hfree _ _ _ _ _ hb
  · by_cases hn : b = H.next
    · subst hn; rw [Bt.set_same] at hb; cases hb
    · rw [Bt.set_ne _ _ hn] at hb
      rw [blk_push_ne hn]; exact h.stale b hb
  · by_cases e1 : b1 = H.next
    · by_cases e2 : b2 = H.next
      · rw [e1, e2]
      · exfalso
        subst e1; rw [Bt.set_same] at h1; rw [Bt.set_ne _ _ e2] at h2
        cases h1
        exact hfree _ _ _ _ _ h2
    · by_cases e2 : b2 = H.next
      · exfalso
        subst e2; rw [Bt.set_same] at h2; rw [Bt.set_ne _ _ e1] at h1
        cases h2
        exact hfree _ _ _ _ _ h1
      · rw [Bt.set_ne _ _ e1] at h1; rw [Bt.set_ne _ _ e2] at h2
        exact h.inj b1 b2 B1 o1 S1 es1 own1 o2 S2 es2 own2 h1 h2 ho
  · have : H.next + 1 ≤ b := hb
    rw [Bt.set_ne _ _ (by omega)]; exact h.dom b (by omega)

/-- The old name is dropped, a new one given. -/
theorem step_claim {β : Bt} {b B off S0 es0 m n o S es : Nat} {w w' : World} (hb : β b = some (.live B off S0 es0 true)) (hm : ∀ c, m ≤ c → β c = none) (hn : n ≤ m)
    (hos : w'.os = w.os) (htp : w'.tape = w.tape) (hout : w'.output = w.output) (hsz : w.heap.size ≤ w'.heap.size) (hoth : ∀ k, k ≠ B → w'.heap[k]? = w.heap[k]?) :
    Step n β w ((β.set b .stale).set m (.live B o S es true)) w' := by
  have hbm : b < m := by
    rcases Nat.lt_or_ge b m with h | h
    · exact h
    · rw [hm b h] at hb; cases hb
  have hval : ∀ c, c ≠ m → c ≠ b → ((β.set b .stale).set m (.live B o S es true)) c = β c := fun c h1 h2 => by rw [Bt.set_ne _ _ h1, Bt.set_ne _ _ h2]
  have hvb : ((β.set b .stale).set m (.live B o S es true)) b = some .stale := by rw [Bt.set_ne _ _ (by omega), Bt.set_same]
  have hvm : ((β.set b .stale).set m (.live B o S es true)) m = some (.live B o S es true) := Bt.set_same _ _ _
  refine ⟨fun c t hc => ?_, fun c hc hno => ?_, fun c C o' S' es' hc => ?_, fun c C o' S' es' hc => ?_, hos, htp, hout, hsz, fun k hk hno => ?_⟩
  · by_cases e : c = b
    · subst e; exact .inr hvb
    · have : c ≠ m := by intro e2; subst e2; rw [hm c (Nat.le_refl _)] at hc; cases hc
      rw [hval c this e]; exact .inl hc
  · have e : c ≠ b := by intro e; subst e; rw [hb] at hno; cases hno
    rw [hval c (by omega) e]; exact hno
  · by_cases e1 : c = m
    · subst e1; rw [hvm] at hc; cases hc; exact .inl ⟨b, off, S0, es0, hb⟩
    · by_cases e2 : c = b
      · subst e2; rw [hvb] at hc; cases hc
      · rw [hval c e1 e2] at hc; exact .inl ⟨c, o', S', es', hc⟩
  · by_cases e1 : c = m
    · subst e1; rw [hvm] at hc; cases hc
    · by_cases e2 : c = b
      · subst e2; rw [hvb] at hc; cases hc
      · rw [hval c e1 e2] at hc; exact hc
  · exact hoth k fun e => by subst e; exact hno b off S0 es0 hb

theorem isOne_oneCell {v : Value} (h : isOne v = true) : v.oneCell' = true := by cases v <;> first | rfl | exact h

section
variable {P : Program} {Q : Exit → AFr → AHeap → Prop} {fr : AFr} {H H' : AHeap} {ρ : Operand → Value} {g : Option (Nat × Bool)} {d : Option Tmp} {ty : TypeId} {pos : String} {aft : Array Edge}

/-- append onto the end of a row of our own: the old row is not looked at any more. -/
theorem ao_appC {t tx e : TypeId} {s x : Operand} {b o n c m size bytes : Nat} {xv : Value} {news cs : List Value} (ht : P.underlying t = some (.slice e)) (htx : ∃ e2, P.underlying tx = some (.slice e2)) (he : Elem P e size bytes)
    (hs : ρ s = .slice (some ⟨b, o, none⟩) n c) (hx : ρ x = xv) (hk : H.blk b = some (.cells cs size)) (hend : o + n * size = cs.length) (hsrc : Src H size xv m news) (hone : news.all isOne = true) (h63 : n + m ≤ 9223372036854775807)
    (hby : (n + m) * bytes ≤ 140737488355328) :
    AOd P ⟨d, .call ⟨.builtin .append, #[s, x], #[t, tx]⟩, ty, pos, aft, g⟩ ρ H (.slice (some ⟨H.next, 0, none⟩) (n + m) (n + m + 1)) ((H.kill b).push (.cells (cs.drop o ++ news) size)) := by
  intro β ρ' w h hh
  have q1 := h s (by simp [Op.operands, Call.operands]); rw [hs] at q1
  have q2 := h x (by simp [Op.operands, Call.operands]); rw [hx] at q2
  obtain ⟨i, z, hi, hz, rfl, rfl, hzs⟩ := he
  obtain ⟨a1, c1, hsv, hS⟩ := q1.slice_inv
  -- where the row lies
  have hlive : ∃ B off S, β b = some (.live B off S i.size true) := by
    obtain ⟨_, _, _, _, t', s5, s6⟩ := hS
    cases t' with
    | stale => have := hh.stale b s5; rw [hk] at this; cases this
    | live B off S es own =>
      obtain ⟨k, hk', hr⟩ := hh.rel b B off S es own s5
      rw [hk] at hk'; cases hk'
      obtain ⟨_, _, _, _, _, _, _, ho, hz, _⟩ := hr
      subst ho; subst hz
      exact ⟨B, off, S, s5⟩
  obtain ⟨B, off, S, hbB⟩ := hlive
  obtain ⟨s1, s2, s3, s4, t', s5, s6⟩ := hS
  rw [show (⟨b, o, none⟩ : Addr).block = b from rfl, hbB] at s5; cases s5
  obtain ⟨k1, k2, _⟩ := s6 B off S i.size true rfl
  obtain ⟨k, hk', hr⟩ := hh.rel b B off S i.size true hbB
  rw [hk] at hk'; cases hk'
  obtain ⟨C, e', fz, r1, r2, r3, r4, _, _, r5⟩ := hr
  subst r5
  obtain ⟨hkill, hstk⟩ := hh.kill hbB
  have hfree : ∀ b' o1 S1 es1 own, β.set b .stale b' ≠ some (.live B o1 S1 es1 own) := by
    intro b' o1 S1 es1 own hb'
    by_cases e : b' = b
    · subst e; rw [Bt.set_same] at hb'; cases hb'
    · rw [Bt.set_ne _ _ e] at hb'
      exact e (hh.inj b' b B o1 S1 es1 own off S i.size true hb' hbB (.inr rfl))
  have hcut : ∀ (j : Nat) u, (cs.drop o)[j]? = some u → ∃ y, C[off + o + j]? = some y ∧ VR (β.set b .stale) u y := by
    intro j u hu
    rw [List.getElem?_drop] at hu
    obtain ⟨y, hy, hv⟩ := r4 _ _ hu
    exact ⟨y, by rw [Nat.add_assoc]; exact hy, hv.mono (ext_stale b)⟩
  have hdl : (cs.drop o).length = n * i.size := by rw [List.length_drop]; omega
  by_cases hroom : n + m ≤ c1
  · -- there is room: or nothing is wanted
    obtain ⟨hl, ao, cx, N, hxv, hN, hrun⟩ := hsrc.cells (P := P) hh q2
    rw [hxv] at hrun
    rcases k2 with ⟨k2, k3⟩ | ⟨k2, k3⟩
    · -- nothing at all
      have hn0 : n = 0 := k2
      have hm0 : m = 0 := by omega
      subst hn0; subst hm0
      have hn : news = [] := List.eq_nil_of_length_eq_zero (by simpa using hl)
      subst hn
      have hN0 : N = [] := List.eq_nil_of_length_eq_zero (by rw [← hN.1]; rfl)
      subst hN0
      have hcs : cs.drop o = [] := List.eq_nil_of_length_eq_zero (by rw [hdl]; simp)
      rw [hcs]
      have hcl := hkill.claim (w' := w) (o := S) (S := S) (es := i.size) (cs := []) hfree r1 r2 (by simp) (fun j u hu => by simp at hu) (fun _ _ => rfl) (Step.glob (step_claim hbB hh.dom (Nat.le_refl _) rfl rfl rfl (Nat.le_refl _) fun _ _ => rfl) hh.glob)
      have hr : (Builtin.append_ #[t, tx] ty #[.slice (some a1) 0 c1, .slice ao 0 cx]).run P w = .ok (.slice (some a1) (0 + 0) c1) w :=
        run_app_fits (a := some a1) (n := 0) (c := c1) (w' := w) ht htx hi hrun hroom (fun ad _ => by simp [storeCells, go_sem]) (fun e => by cases e)
      refine gives_value (app_run (v := .slice (some a1) 0 c1) (by rw [hsv, hxv]; exact hr)) ?_
      refine ⟨_, _, _, ⟨rfl, rfl⟩, .slice ⟨rfl, s2, by omega, fun h => by omega, _, Bt.set_same _ _ _, fun B1 o1 S1 es1 own1 e => ?_⟩, hcl, ?_, by show H.next ≤ H.next + 1; omega⟩
      · cases e; exact ⟨k1, .inl ⟨rfl, by omega⟩, fun h => by omega⟩
      · exact step_claim hbB hh.dom (Nat.le_refl _) rfl rfl rfl (Nat.le_refl _) fun _ _ => rfl
    · -- in place
      have ha1 : a1 = ⟨B, off + o, none⟩ := by
        obtain ⟨x1, x2, x3⟩ := a1
        simp only at k1 k2 s2
        subst k1; subst k2; subst s2; rfl
      subst ha1
      have hsz : off + o + c1 * i.size ≤ S := k3 rfl
      have hNl : N.length = m * i.size := by rw [← hN.1, hl]
      have hfit : off + cs.length + N.length ≤ C.size := by
        have : (n + m) * i.size ≤ c1 * i.size := Nat.mul_le_mul_right _ hroom
        rw [Nat.add_mul] at this
        omega
      have hst := run_storeCells_at P B (off + cs.length) e' N 0 C w r1 (by omega) (fun v hv => isOne_oneCell (hN.ones hone v hv))
      simp only [Nat.add_zero] at hst
      have hadd : (⟨B, off + o, none⟩ : Addr).add (n * i.size) = ⟨B, off + cs.length, none⟩ := by rw [add_none rfl]; simp only; congr 1; omega
      have hr : (Builtin.append_ #[t, tx] ty #[.slice (some ⟨B, off + o, none⟩) n c1, .slice ao m cx]).run P w = .ok (.slice (some ⟨B, off + o, none⟩) (n + m) c1)
          (w.setRow B (C.toList.take (off + cs.length) ++ N ++ C.toList.drop (off + cs.length + N.length)).toArray) :=
        run_app_fits (a := some ⟨B, off + o, none⟩) (n := n) (c := c1) ht htx hi hrun hroom (fun ad e => by cases e; rw [hadd]; simpa using hst) (fun e => by cases e)
      have hlen2 : off + o + (cs.drop o ++ news).length ≤ S := by
        have : (n + m) * i.size ≤ c1 * i.size := Nat.mul_le_mul_right _ hroom
        rw [List.length_append, hdl, hl]
        rw [Nat.add_mul] at this
        omega
      have hC' : (C.toList.take (off + cs.length) ++ N ++ C.toList.drop (off + cs.length + N.length)).length = C.size := by
        simp only [List.length_append, List.length_take, List.length_drop, Array.length_toList]; omega
      have hcl := hkill.claim (w' := w.setRow B (C.toList.take (off + cs.length) ++ N ++ C.toList.drop (off + cs.length + N.length)).toArray) (o := off + o) (S := S) (es := i.size) (cs := cs.drop o ++ news) hfree
        (setRow_heap w B C _ e' _ r1) (by simpa using hC'.trans r2) hlen2 (fun j u hu => ?_) (fun k hk => setRow_other w B k _ hk) (Step.glob (w := w) (step_claim hbB hh.dom (Nat.le_refl _) rfl rfl rfl (by simp [World.setRow]) fun k hk => setRow_other w B k _ hk) hh.glob)
      · refine gives_value (app_run (v := .slice (some ⟨B, off + o, none⟩) (n + m) c1) (by rw [hsv, hxv]; exact hr)) ?_
        refine ⟨_, _, _, ⟨rfl, rfl⟩, .slice ⟨rfl, rfl, hroom, fun h => by omega, _, Bt.set_same _ _ _, fun B1 o1 S1 es1 own1 e => ?_⟩, hcl, ?_, by show H.next ≤ H.next + 1; omega⟩
        · cases e; exact ⟨rfl, .inr ⟨by simp, fun _ => hsz⟩, fun h => by omega⟩
        · exact step_claim hbB hh.dom (Nat.le_refl _) rfl rfl rfl (by simp [World.setRow]) fun k hk => setRow_other w B k _ hk
      · simp only [List.getElem?_toArray]
        by_cases hj : j < n * i.size
        · rw [List.getElem?_append_left (by omega)] at hu
          obtain ⟨y, hy, hv⟩ := hcut j u hu
          refine ⟨y, ?_, hv⟩
          rw [List.append_assoc, List.getElem?_append_left (by simp; omega), List.getElem?_take, if_pos (by omega)]
          simpa using hy
        · rw [List.getElem?_append_right (by omega), hdl] at hu
          obtain ⟨y, hy, hv⟩ := (hN.mono (ext_stale b)).get hu
          refine ⟨y, ?_, hv⟩
          have hjl : j - n * i.size < N.length := (List.getElem?_eq_some_iff.1 hy).1
          rw [List.append_assoc, List.getElem?_append_right (by simp; omega), List.getElem?_append_left (by simp; omega)]
          rw [← hy]; congr 1; simp; omega
  · -- a new array
    obtain ⟨hl, ao, cx, N, hxv, hN, hrun⟩ := hsrc.cells (P := P) hh.drew q2
    rw [hxv] at hrun
    have hso : Src H i.size (.slice (some ⟨b, o, none⟩) n c) n ((cs.drop o).take (n * i.size)) := src_part hk rfl (by omega)
    rw [List.take_of_length_le (by omega)] at hso
    obtain ⟨hlo, aO, cO, O, hsv', hO, hrunO⟩ := hso.cells (P := P) hh.drew q1
    rw [hsv] at hsv'; cases hsv'
    rw [hsv] at hrunO
    have hr := run_app_grow (ty := ty) (w := w) (n := n) (c := c1) (a := some a1) ht htx hi hz hrun hrunO (by omega) (by omega) hby
    refine gives_value (app_run (v := .slice (some ⟨w.heap.size, 0, none⟩) (n + m) (grownCap w (n + m) c1 e)) (by rw [hsv, hxv]; exact hr)) ?_
    obtain ⟨v1, H1, β1, ⟨rfl, rfl⟩, o1, o2, o3, o4⟩ := app_new (e := e) (n := n + m) (c' := grownCap w (n + m) c1 e) (Z := Builtin.zeroCells z.cells (grownCap w (n + m) c1 e - (n + m))) hkill (hO.mono (ext_stale b)) (hN.mono (ext_stale b))
      (by rw [List.length_append, hlo, hl, Nat.add_mul]) (grownCap_ge _ _ _ _) (by rw [size_zeroCells', hzs])
    exact ⟨_, _, β1, ⟨rfl, rfl⟩, o1, o2, hstk.trans o3 (Nat.le_refl _), o4⟩
end
end Go.AW
