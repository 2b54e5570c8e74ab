/- The rules for append. -/
import Derived.Test.YtkjmcolnoehjbaaMem3
namespace Go.AW
open Go
set_option linter.unusedVariables false
set_option linter.unusedSimpArgs false

/-- What an appended operand holds. -/
def Src (H : AHeap) (size : Nat) (xv : Value) (m : Nat) (news : List Value) : Prop :=
  (xv = .slice none 0 0 ∧ m = 0 ∧ news = []) ∨
  ∃ b o c k cs, xv = .slice (some ⟨b, o, none⟩) m c ∧ ((m = 0 ∧ news = []) ∨ (H.blk b = some k ∧ k.rd = some cs ∧ o + m * size ≤ cs.length ∧ news = (cs.drop o).take (m * size)))

theorem src_nil {H : AHeap} {size : Nat} : Src H size (.slice none 0 0) 0 [] := .inl ⟨rfl, rfl, rfl⟩
theorem src_all {H : AHeap} {size b m c : Nat} {k : ABlk} {cs : List Value} (hk : H.blk b = some k) (hr : k.rd = some cs) (hl : cs.length = m * size) : Src H size (.slice (some ⟨b, 0, none⟩) m c) m cs :=
  .inr ⟨b, 0, c, k, cs, rfl, .inr ⟨hk, hr, by omega, by rw [List.drop_zero, List.take_of_length_le (by omega)]⟩⟩
theorem src_part {H : AHeap} {size b o m c : Nat} {k : ABlk} {cs : List Value} (hk : H.blk b = some k) (hr : k.rd = some cs) (hl : o + m * size ≤ cs.length) : Src H size (.slice (some ⟨b, o, none⟩) m c) m ((cs.drop o).take (m * size)) :=
  .inr ⟨b, o, c, k, cs, rfl, .inr ⟨hk, hr, hl, rfl⟩⟩
theorem src_none {H : AHeap} {size b o c : Nat} : Src H size (.slice (some ⟨b, o, none⟩) 0 c) 0 [] := .inr ⟨b, o, c, .map [], [], rfl, .inl ⟨rfl, rfl⟩⟩

theorem Src.cells {P : Program} {H : AHeap} {β : Bt} {w : World} (hh : HRel β H w) {size m : Nat} {xv xv' : Value} {news : List Value} (h : Src H size xv m news) (hv : VR β xv xv') :
    news.length = m * size ∧ ∃ (ao : Option Addr) (c' : Nat) (N : List Value), xv' = .slice ao m c' ∧ VRL β news N ∧ (Builtin.firstCells size m xv').run P w = .ok N.toArray w := by
  rcases h with ⟨rfl, rfl, rfl⟩ | ⟨b, o, c, k, cs, rfl, h⟩
  · rw [hv.nil_inv]
    exact ⟨by simp, none, 0, [], rfl, VRL.nil _, by simp [Builtin.firstCells, go_sem]⟩
  · obtain ⟨a', c', rfl, hS⟩ := hv.slice_inv
    by_cases h0 : m * size = 0
    · have hn : news = [] := by
        rcases h with ⟨_, hn⟩ | ⟨_, _, _, hn⟩
        · exact hn
        · rw [hn, h0]; rfl
      subst hn
      exact ⟨by simp [h0], _, c', [], rfl, VRL.nil _, by simp [Builtin.firstCells, h0, loadCells, loadCellsFrom, go_sem]⟩
    · have hm : 0 < m := Nat.pos_of_ne_zero fun e => h0 (by rw [e]; simp)
      rcases h with ⟨e, _⟩ | ⟨hk, hr, hl, hn⟩
      · omega
      · obtain ⟨B, off, S, es, own, h2, rfl, hb⟩ := hh.at (hS.addr hm) hk
        obtain ⟨C, e, fz, h3, h4, h5, h6⟩ := hb.rd hr
        have hlen : news.length = m * size := by rw [hn, List.length_take, List.length_drop]; omega
        have hl' : (loadCells ⟨B, off + o, none⟩ (m * size)).run P w = .ok (C.extract (off + o) (off + o + m * size)) w := run_loadCells h3 _ (by omega)
        refine ⟨hlen, _, c', (C.extract (off + o) (off + o + m * size)).toList, rfl, ⟨?_, ?_⟩, by rw [Array.toArray_toList]; exact hl'⟩
        · rw [hlen]; simp; omega
        · intro i u u' hu hu'
          rw [hn] at hu
          simp only [List.getElem?_take, List.getElem?_drop] at hu
          simp only [Array.getElem?_toList, Array.getElem?_extract] at hu'
          split at hu
          · obtain ⟨y, hy, hV⟩ := h6 (o + i) u hu
            split at hu'
            · rw [← Nat.add_assoc] at hy; rw [hy] at hu'; cases hu'; exact hV
            · cases hu'
          · cases hu

theorem VRL.ones {β : Bt} {xs ys : List Value} (h : VRL β xs ys) (ho : xs.all isOne = true) : ∀ y ∈ ys, isOne y = true := by
  intro y hy
  obtain ⟨i, hi, rfl⟩ := List.mem_iff_getElem.1 hy
  have hix : i < xs.length := by rw [h.1]; exact hi
  refine (h.2 i xs[i] ys[i] (List.getElem?_eq_getElem hix) (List.getElem?_eq_getElem hi)).one ?_
  exact List.all_eq_true.1 ho _ (List.getElem_mem hix)

section
variable {P : Program}

/-- append: nothing is appended. -/
theorem run_app_fits {t tx ty e : TypeId} {i : TypeInfo} {w w' : World} (ht : P.underlying t = some (.slice e)) (htx : ∃ e2, P.underlying tx = some (.slice e2)) (hi : P.info? e = some i)
    {a : Option Addr} {n c m cx : Nat} {ax : Option Addr} {N : Array Value} (hf : (Builtin.firstCells i.size m (.slice ax m cx)).run P w = .ok N w) (hroom : n + m ≤ c)
    (hst : ∀ ad, a = some ad → (storeCells (ad.add (n * i.size)) N.toList).run P w = .ok () w') (hno : a = none → w' = w) :
    (Builtin.append_ #[t, tx] ty #[.slice a n c, .slice ax m cx]).run P w = .ok (.slice a (n + m) c) w' := by
  obtain ⟨e2, htx⟩ := htx
  cases a with
  | none => simp [Builtin.append_, run_underlying ht, run_underlying htx, sizeOf, typeInfo, hi, Builtin.lenOf, hroom, hf, hno rfl]
  | some ad => simp [Builtin.append_, run_underlying ht, run_underlying htx, sizeOf, typeInfo, hi, Builtin.lenOf, hroom, hf, hst ad rfl]

/-- append: a new array. -/
theorem run_app_grow {t tx ty e : TypeId} {i : TypeInfo} {z : Value} {w : World} (ht : P.underlying t = some (.slice e)) (htx : ∃ e2, P.underlying tx = some (.slice e2)) (hi : P.info? e = some i) (hz : i.zero = some z)
    {a : Option Addr} {n c m cx : Nat} {ax : Option Addr} {N O : Array Value} (hf : (Builtin.firstCells i.size m (.slice ax m cx)).run P w.drew = .ok N w.drew) (ho : (Builtin.firstCells i.size n (.slice a n c)).run P w.drew = .ok O w.drew)
    (hg : c < n + m) (h63 : ((n + m : Nat) : Int) ≤ 9223372036854775807) (hby : (n + m) * i.bytes ≤ 140737488355328) :
    (Builtin.append_ #[t, tx] ty #[.slice a n c, .slice ax m cx]).run P w =
      .ok (.slice (some ⟨w.heap.size, 0, none⟩) (n + m) (grownCap w (n + m) c e)) (w.drew.alloc (.cells (O ++ N ++ Builtin.zeroCells z.cells (grownCap w (n + m) c e - (n + m))) e)) := by
  obtain ⟨e2, htx⟩ := htx
  have hn : ¬ (n + m ≤ c) := by omega
  have h63' : ¬ (9223372036854775807 < ((n : Int) + (m : Int))) := by omega
  have hfit := growslice_fits (bytes := i.bytes) hg hby
  have h48' : ¬ (281474976710656 < Builtin.nextslicecap (n + m) c * i.bytes) := by omega
  simp [Builtin.append_, run_underlying ht, run_underlying htx, sizeOf, typeInfo, zeroValue, hi, hz, Builtin.lenOf, hn, h63', h48', Question.forced, hf, ho, newRow, grownCap]
end

theorem size_zeroCells' (z : Array Value) (n : Nat) : (Builtin.zeroCells z n).size = n * z.size := by simp [Builtin.zeroCells]

section
variable {P : Program} {Q : Exit → AFr → AHeap → Prop} {fr : AFr} {H H' : AHeap} {ρ : Operand → Value} {g : Option (Nat × Bool)} {d : Option Tmp} {ty : TypeId} {pos : String} {aft : Array Edge}

theorem drew_step (n : Nat) (β : Bt) (w : World) : Step n β w β w.drew := Step.drew n β w

/-- The element's type: its zero value, its cells, its bytes. -/
def Elem (P : Program) (e : TypeId) (size bytes : Nat) : Prop := ∃ i z, P.info? e = some i ∧ i.zero = some z ∧ i.size = size ∧ i.bytes = bytes ∧ z.cells.size = size

theorem app_run {ρ' : Operand → Value} {s x : Operand} {t tx : TypeId} {w w' : World} {v : Value} (h : (Builtin.append_ #[t, tx] ty #[ρ' s, ρ' x]).run P w = .ok v w') :
    (execOp ρ' ⟨d, .call ⟨.builtin .append, #[s, x], #[t, tx]⟩, ty, pos, aft, g⟩).run P w = .ok (.value v) w' := by
  have : (execOp ρ' ⟨d, .call ⟨.builtin .append, #[s, x], #[t, tx]⟩, ty, pos, aft, g⟩).run P w = ((Builtin.append_ #[t, tx] ty #[ρ' s, ρ' x]).run P w).andThen fun v w => .ok (.value v) w := by
    simp only [execOp, resolve]
    rw [Sem.run_bind]
    simp only [Sem.run_pure, Result.andThen_ok, invoke, builtin, List.map_toArray, List.map_cons, List.map_nil]
    rw [Sem.run_bind]
    rfl
  rw [this, h]; rfl

/-- A new array that holds olds and news. -/
theorem app_new {β : Bt} {w : World} (hh : HRel β H w) {olds news : List Value} {O N Z : Array Value} {e : TypeId} {size n c' : Nat} (ho : VRL β olds O.toList) (hn : VRL β news N.toList)
    (hlen : (olds ++ news).length = n * size) (hc : n ≤ c') (hZ : Z.size = (c' - n) * size) :
    Out H.next β w (fun v1 H1 => v1 = .slice (some ⟨H.next, 0, none⟩) n (n + 1) ∧ H1 = H.push (.cells (olds ++ news) size)) (.slice (some ⟨w.heap.size, 0, none⟩) n c') (w.drew.alloc (.cells (O ++ N ++ Z) e)) := by
  have hon := ho.append hn
  have hsz : (O ++ N ++ Z).size = c' * size := by
    have h1 := hon.1
    rw [hlen] at h1
    simp only [List.length_append, Array.length_toList] at h1
    simp only [Array.size_append]
    rw [hZ, ← h1, ← Nat.add_mul]; congr 1; omega
  obtain ⟨k1, k2⟩ := (HRel.drew hh).alloc (k := .cells (olds ++ news) size) (o := .cells (O ++ N ++ Z) e) (S := (O ++ N ++ Z).size) (es := size) (by
    intro β' hb
    refine ⟨O ++ N ++ Z, e, (0, 0), by show (w.heap.push _)[w.heap.size]? = _; simp, rfl, ?_, ?_, rfl, rfl, rfl⟩
    · have h1 := hon.1
      simp only [List.length_append, Array.length_toList] at h1
      simp only [List.length_append, Array.size_append]; omega
    · intro i x hx
      obtain ⟨y, hy, hv⟩ := (hon.mono hb).get hx
      refine ⟨y, ?_, hv⟩
      have hlt : i < (O ++ N).size := by
        have := (List.getElem?_eq_some_iff.1 hy).1
        simpa using this
      rw [Nat.zero_add, Array.getElem?_append_left hlt]
      rw [← Array.getElem?_toList, Array.toList_append]; exact hy)
  refine ⟨_, _, _, ⟨rfl, rfl⟩, .slice ⟨rfl, rfl, hc, fun h => by omega, _, Bt.set_same _ _ _, fun B o S es own h => ?_⟩, k1, (Step.drew _ _ _).trans k2 (Nat.le_refl _), by show H.next ≤ H.next + 1; omega⟩
  cases h
  exact ⟨rfl, .inr ⟨rfl, fun _ => by rw [hsz]; simp⟩⟩

/-- append onto nil. -/
theorem ao_appN {t tx e : TypeId} {s x : Operand} {m size bytes : Nat} {xv : Value} {news : List Value} (ht : P.underlying t = some (.slice e)) (htx : ∃ e2, P.underlying tx = some (.slice e2)) (he : Elem P e size bytes)
    (hs : ρ s = .slice none 0 0) (hx : ρ x = xv) (hsrc : Src H size xv m news) (h0 : 0 < m) (h63 : m ≤ 9223372036854775807) (hby : m * bytes ≤ 140737488355328) :
    AOd P ⟨d, .call ⟨.builtin .append, #[s, x], #[t, tx]⟩, ty, pos, aft, g⟩ ρ H (.slice (some ⟨H.next, 0, none⟩) m (m + 1)) (H.push (.cells news size)) := by
  intro β ρ' w h hh
  have q1 := h s (by simp [Op.operands, Call.operands]); rw [hs] at q1
  have q2 := h x (by simp [Op.operands, Call.operands]); rw [hx] at q2
  obtain ⟨i, z, hi, hz, rfl, rfl, hzs⟩ := he
  obtain ⟨hl, ao, c', N, hxv, hN, hrun⟩ := hsrc.cells (P := P) hh.drew q2
  rw [hxv] at hrun
  have hr := run_app_grow (ty := ty) (w := w) (n := 0) (c := 0) (a := none) (O := #[]) ht htx hi hz hrun (by simp [Builtin.firstCells, go_sem]) (by omega) (by omega) (by simpa using hby)
  simp only [Nat.zero_add, Array.empty_append] at hr
  refine gives_value (app_run (v := .slice (some ⟨w.heap.size, 0, none⟩) m (grownCap w m 0 e)) (by rw [q1.nil_inv, hxv]; exact hr)) ?_
  have := app_new (n := m) (size := i.size) (e := e) (c' := grownCap w m 0 e) (olds := []) (news := news) (O := #[]) (N := N.toArray) (Z := Builtin.zeroCells z.cells (grownCap w m 0 e - m)) hh (VRL.nil _) hN (by simpa using hl) (grownCap_ge _ _ _ _)
    (by rw [size_zeroCells', hzs])
  simpa using this

/-- append onto a slice without room. -/
theorem ao_appE {t tx e : TypeId} {s x : Operand} {b o n m size bytes : Nat} {xv : Value} {news cs : List Value} {k : ABlk} (ht : P.underlying t = some (.slice e)) (htx : ∃ e2, P.underlying tx = some (.slice e2)) (he : Elem P e size bytes)
    (hs : ρ s = .slice (some ⟨b, o, none⟩) n n) (hx : ρ x = xv) (hold : (n = 0 ∧ cs = []) ∨ (H.blk b = some k ∧ k.rd = some cs ∧ o = 0 ∧ cs.length = n * size)) (hsrc : Src H size xv m news) (h0 : 0 < m) (h63 : n + m ≤ 9223372036854775807) (hby : (n + m) * bytes ≤ 140737488355328) :
    AOd P ⟨d, .call ⟨.builtin .append, #[s, x], #[t, tx]⟩, ty, pos, aft, g⟩ ρ H (.slice (some ⟨H.next, 0, none⟩) (n + m) (n + m + 1)) (H.push (.cells (cs ++ news) size)) := by
  intro β ρ' w h hh
  have q1 := h s (by simp [Op.operands, Call.operands]); rw [hs] at q1
  have q2 := h x (by simp [Op.operands, Call.operands]); rw [hx] at q2
  obtain ⟨i, z, hi, hz, rfl, rfl, hzs⟩ := he
  obtain ⟨hl, ao, c', N, hxv, hN, hrun⟩ := hsrc.cells (P := P) hh.drew q2
  rw [hxv] at hrun
  have hso : Src H i.size (.slice (some ⟨b, o, none⟩) n n) n cs := by
    rcases hold with ⟨rfl, rfl⟩ | ⟨h1, h2, rfl, h3⟩
    · exact src_none
    · exact src_all h1 h2 h3
  obtain ⟨hlo, aO, cO, O, hsv, hO, hrunO⟩ := hso.cells (P := P) hh.drew q1
  obtain ⟨a1, c1, e1, hS⟩ := q1.slice_inv
  rw [hsv] at e1; cases e1
  have hcn : cO = n := hS.2.2.2.1 rfl
  subst hcn
  rw [hsv] at hrunO
  have hr := run_app_grow (ty := ty) (w := w) (n := cO) (c := cO) (a := some a1) ht htx hi hz hrun hrunO (by omega) (by omega) hby
  refine gives_value (app_run (v := .slice (some ⟨w.heap.size, 0, none⟩) (cO + m) (grownCap w (cO + m) cO e)) (by rw [hsv, hxv]; exact hr)) ?_
  exact app_new hh hO hN (by rw [List.length_append, hlo, hl, Nat.add_mul]) (grownCap_ge _ _ _ _) (by rw [size_zeroCells', hzs])

/-- append of nothing. -/
theorem ao_app0 {t tx e : TypeId} {s x : Operand} {size bytes : Nat} {xv sv : Value} (ht : P.underlying t = some (.slice e)) (htx : ∃ e2, P.underlying tx = some (.slice e2)) (he : Elem P e size bytes)
    (hs : ρ s = sv) (hsv : sv = .slice none 0 0 ∨ ∃ b o n c, sv = .slice (some ⟨b, o, none⟩) n c) (hx : ρ x = xv) (hsrc : Src H size xv 0 []) :
    AOd P ⟨d, .call ⟨.builtin .append, #[s, x], #[t, tx]⟩, ty, pos, aft, g⟩ ρ H sv H :=
  AO.pure fun β ρ' w h hh => by
    have q1 := h s (by simp [Op.operands, Call.operands]); rw [hs] at q1
    have q2 := h x (by simp [Op.operands, Call.operands]); rw [hx] at q2
    obtain ⟨i, z, hi, hz, rfl, rfl, hzs⟩ := he
    obtain ⟨hl, ao, c', N, hxv, hN, hrun⟩ := hsrc.cells (P := P) hh q2
    have hN0 : N = [] := List.eq_nil_of_length_eq_zero (by rw [← hN.1]; simp)
    subst hN0
    rw [hxv] at hrun
    refine ⟨ρ' s, app_run ?_, q1⟩
    rcases hsv with rfl | ⟨b, o, n, c, rfl⟩
    · rw [q1.nil_inv, hxv]
      exact run_app_fits (a := none) (n := 0) (c := 0) ht htx hi hrun (by omega) (fun ad e => by cases e) (fun _ => rfl)
    · obtain ⟨a1, c1, e1, hS⟩ := q1.slice_inv
      rw [e1, hxv]
      exact run_app_fits (a := some a1) (n := n) (c := c1) ht htx hi hrun (by have := hS.2.2.1; omega) (fun ad e => by simp [storeCells, go_sem]) (fun e => by cases e)
end
end Go.AW
