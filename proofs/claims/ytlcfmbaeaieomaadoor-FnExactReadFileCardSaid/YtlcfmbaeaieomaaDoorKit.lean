/- The rules in the forms that the printed texts use. -/
import Derived.Test.YtlcfmbaeaieomaaDoorMem5
namespace Go.AW
open Go
set_option linter.unusedVariables false
set_option linter.unusedSimpArgs false

section
variable {P : Program} {ops : Array Oper} {Q : Exit → AFr → AHeap → Prop} {K : AFr → AHeap → Prop} {fr : AFr} {H H' : AHeap} {ρ : Operand → Value} {g : Option (Nat × Bool)} {d : Option Tmp} {ty : TypeId} {pos : String} {aft : Array Edge}

/-! steps in the forms that the generated texts use -/
theorem ao_mv {x : Operand} {v : Value} (h : ρ x = v) : AOd P ⟨d, .move x, ty, pos, aft, g⟩ ρ H v H := h ▸ ao_move
theorem ao_as {x : Operand} {v : Value} (h : ρ x = v) : AOd P ⟨d, .assign x, ty, pos, aft, g⟩ ρ H v H := h ▸ ao_assign
theorem ao_pickT {c x y : Operand} {v : Value} (hc : ρ c = .bool true) (hx : ρ x = v) : AOd P ⟨d, .pick c x y, ty, pos, aft, g⟩ ρ H v H := by
  have := ao_pick (P := P) (d := d) (ty := ty) (pos := pos) (aft := aft) (g := g) (H := H) (x := x) (y := y) hc
  simpa [hx] using this
theorem ao_pickF {c x y : Operand} {v : Value} (hc : ρ c = .bool false) (hy : ρ y = v) : AOd P ⟨d, .pick c x y, ty, pos, aft, g⟩ ρ H v H := by
  have := ao_pick (P := P) (d := d) (ty := ty) (pos := pos) (aft := aft) (g := g) (H := H) (x := x) (y := y) hc
  simpa [hy] using this

theorem AOd.val {o : Oper} {v v' : Value} {H1 : AHeap} (h : AOd P o ρ H v H1) (e : v = v') : AOd P o ρ H v' H1 := e ▸ h

theorem nw {k : IntKind} {n : Int} (h1 : k.min ≤ n) (h2 : n ≤ k.max) : k.wrap n = n := by
  cases k <;> simp [IntKind.min, IntKind.max, IntKind.wrap, IntKind.signed, IntKind.bits] at h1 h2 ⊢ <;> omega
theorem nw_i64 {n : Int} (h1 : -9223372036854775808 ≤ n) (h2 : n ≤ 9223372036854775807) : Value.int .i64 (IntKind.i64.wrap n) = .int .i64 n := by
  rw [nw (k := .i64) (by simpa [IntKind.min, IntKind.signed, IntKind.bits] using h1) (by simpa [IntKind.max, IntKind.signed, IntKind.bits] using h2)]
theorem nw_i8 {n : Int} (h1 : -128 ≤ n) (h2 : n ≤ 127) : Value.int .i8 (IntKind.i8.wrap n) = .int .i8 n := by
  rw [nw (k := .i8) (by simpa [IntKind.min, IntKind.signed, IntKind.bits] using h1) (by simpa [IntKind.max, IntKind.signed, IntKind.bits] using h2)]
theorem nw_i16 {n : Int} (h1 : -32768 ≤ n) (h2 : n ≤ 32767) : Value.int .i16 (IntKind.i16.wrap n) = .int .i16 n := by
  rw [nw (k := .i16) (by simpa [IntKind.min, IntKind.signed, IntKind.bits] using h1) (by simpa [IntKind.max, IntKind.signed, IntKind.bits] using h2)]
theorem nw_i32 {n : Int} (h1 : -2147483648 ≤ n) (h2 : n ≤ 2147483647) : Value.int .i32 (IntKind.i32.wrap n) = .int .i32 n := by
  rw [nw (k := .i32) (by simpa [IntKind.min, IntKind.signed, IntKind.bits] using h1) (by simpa [IntKind.max, IntKind.signed, IntKind.bits] using h2)]
theorem nw_u8 {n : Int} (h1 : 0 ≤ n) (h2 : n ≤ 255) : Value.int .u8 (IntKind.u8.wrap n) = .int .u8 n := by
  rw [nw (k := .u8) (by simpa [IntKind.min, IntKind.signed, IntKind.bits] using h1) (by simpa [IntKind.max, IntKind.signed, IntKind.bits] using h2)]
theorem nw_u16 {n : Int} (h1 : 0 ≤ n) (h2 : n ≤ 65535) : Value.int .u16 (IntKind.u16.wrap n) = .int .u16 n := by
  rw [nw (k := .u16) (by simpa [IntKind.min, IntKind.signed, IntKind.bits] using h1) (by simpa [IntKind.max, IntKind.signed, IntKind.bits] using h2)]
theorem nw_u32 {n : Int} (h1 : 0 ≤ n) (h2 : n ≤ 4294967295) : Value.int .u32 (IntKind.u32.wrap n) = .int .u32 n := by
  rw [nw (k := .u32) (by simpa [IntKind.min, IntKind.signed, IntKind.bits] using h1) (by simpa [IntKind.max, IntKind.signed, IntKind.bits] using h2)]
theorem nw_u64 {n : Int} (h1 : 0 ≤ n) (h2 : n ≤ 18446744073709551615) : Value.int .u64 (IntKind.u64.wrap n) = .int .u64 n := by
  rw [nw (k := .u64) (by simpa [IntKind.min, IntKind.signed, IntKind.bits] using h1) (by simpa [IntKind.max, IntKind.signed, IntKind.bits] using h2)]

/-! ends of stretches -/
theorem al_nilT (h : K fr H) : AL P ops (thenA K Q) [] fr H := al_nil h
theorem al_nilB {id : Nat} (h : Q .normal fr H) : AL P ops (blockA id Q) [] fr H := al_nil h
theorem aw_skipT (h : K fr H) : AW P .skip (thenA K Q) fr H := aw_skip h
theorem aw_skipB {id : Nat} (h : Q .normal fr H) : AW P .skip (blockA id Q) fr H := aw_skip h
theorem thenA_n (h : K fr H) : thenA K Q .normal fr H := h
theorem thenA_x {id : Nat} (h : Q (.exit id) fr H) : thenA K Q (.exit id) fr H := h
theorem thenA_r (h : Q .ret fr H) : thenA K Q .ret fr H := h
theorem blockA_n {id : Nat} (h : Q .normal fr H) : blockA id Q .normal fr H := h
theorem blockA_r {id : Nat} (h : Q .ret fr H) : blockA id Q .ret fr H := h
theorem blockA_hit {id : Nat} (h : Q .normal fr H) : blockA id Q (.exit id) fr H := by simp only [blockA, if_true]; exact h
theorem blockA_miss {id id' : Nat} (hne : id' ≠ id) (h : Q (.exit id') fr H) : blockA id Q (.exit id') fr H := by simp only [blockA, if_neg hne]; exact h

theorem aw_condT {t : Operand} {x y : Code} (hc : fr.ev t = .bool true) (ht : ∃ i, t = .tmp i) (hx : AW P x Q fr H) : AW P (.cond t x y) Q fr H := by
  obtain ⟨i, rfl⟩ := ht
  exact aw_cond hc (fun _ => hx) (fun h => by cases h)
theorem aw_condF {t : Operand} {x y : Code} (hc : fr.ev t = .bool false) (ht : ∃ i, t = .tmp i) (hy : AW P y Q fr H) : AW P (.cond t x y) Q fr H := by
  obtain ⟨i, rfl⟩ := ht
  exact aw_cond hc (fun h => by cases h) (fun _ => hy)

/-- A slot told. -/
theorem aw_slot {c : Code} {d : Nat} {v : Value} (h : fr.get d = v) (k : AW P c Q (fr.put d v) H) : AW P c Q fr H := by rwa [AFr.put_same h] at k
/-- Ways that meet again. -/
theorem aw_cut {c : Code} (J : AFr → AHeap → Prop) (h : AW P c (thenA J Q) fr H) (k : ∀ fr H, J fr H → K fr H) : AW P c (thenA K Q) fr H :=
  h.mono fun e fr H hq => by cases e <;> first | exact k _ _ hq | exact hq

theorem Same.blk {n : Nat} {H0 : AHeap} (h : Same n H0 H) {b : Nat} {k : ABlk} (hk : H0.blk b = some k) (hb : b < n) : H.blk b = some k := (h b hb).trans hk
theorem Same.blk' {H0 : AHeap} (h : Same H0.next H0 H) {b : Nat} {k : ABlk} (hk : H0.blk b = some k) : H.blk b = some k := (h b (AHeap.lt hk)).trans hk
theorem Same.mono {n n' : Nat} {H0 : AHeap} (h : Same n H0 H) (hn : n' ≤ n) : Same n' H0 H := fun i hi => h i (by omega)

theorem ao_box1 {t : TypeId} {x : Operand} {v : Value} (h1 : isOne v = true) (hx : ρ x = v) : AOd P ⟨d, .box t x, ty, pos, aft, g⟩ ρ H (.pointer (some ⟨H.next, 0, none⟩)) (H.push (.cells [v] 1)) := by
  have : v.cells.toList = [v] := by cases v <;> first | rfl | (simp [isOne] at h1; done)
  have h := ao_box (P := P) (d := d) (ty := ty) (pos := pos) (aft := aft) (g := g) (H := H) (t := t) hx
  rwa [this] at h
theorem ao_boxa {t : TypeId} {x : Operand} {cs : List Value} (hx : ρ x = .agg cs.toArray) : AOd P ⟨d, .box t x, ty, pos, aft, g⟩ ρ H (.pointer (some ⟨H.next, 0, none⟩)) (H.push (.cells cs 1)) := by
  have h := ao_box (P := P) (d := d) (ty := ty) (pos := pos) (aft := aft) (g := g) (H := H) (t := t) hx
  simpa [Value.cells] using h
theorem ao_alloca {t : TypeId} {cs : List Value} (hz : ∀ w, (zeroValue t).run P w = .ok (.agg cs.toArray) w) (hp : cs.all plain1 = true) :
    AOd P ⟨d, .alloc t, ty, pos, aft, g⟩ ρ H (.pointer (some ⟨H.next, 0, none⟩)) (H.push (.cells cs 1)) := by
  have h := ao_alloc (P := P) (ρ := ρ) (d := d) (ty := ty) (pos := pos) (aft := aft) (g := g) (H := H) hz (by simpa [plainV] using hp)
  simpa [Value.cells] using h
theorem ao_alloc1 {t : TypeId} {v : Value} (hz : ∀ w, (zeroValue t).run P w = .ok v w) (h1 : isOne v = true) (hp : plain1 v = true) :
    AOd P ⟨d, .alloc t, ty, pos, aft, g⟩ ρ H (.pointer (some ⟨H.next, 0, none⟩)) (H.push (.cells [v] 1)) := by
  have : v.cells.toList = [v] := by cases v <;> first | rfl | (simp [isOne] at h1; done)
  have h := ao_alloc (P := P) (ρ := ρ) (d := d) (ty := ty) (pos := pos) (aft := aft) (g := g) (H := H) hz (by cases v <;> first | exact hp | (simp [isOne] at h1; done))
  rwa [this] at h
/-- A store of a whole struct or array that is a list. -/
theorem ao_storeL {t : TypeId} {x y : Operand} {b n es : Nat} {cs ds : List Value} (hn : ∀ w, (sizeOf t).run P w = .ok n w) (hx : ρ x = .pointer (some ⟨b, 0, none⟩)) (hy : ρ y = .agg ds.toArray)
    (hk : H.blk b = some (.cells cs es)) (hc : ds.length = n) (ho : ds.all isOne = true) (hl : cs.length = n) :
    AOd P ⟨d, .store t x y, ty, pos, aft, g⟩ ρ H undef (H.set b (.cells ds es)) := by
  have := ao_storea (d := d) (ty := ty) (pos := pos) (aft := aft) (g := g) (ρ := ρ) (H := H) hn hx hy hk (by simpa [Value.cells] using hc) (by simpa [Value.cells] using ho) hl
  simpa [Value.cells] using this
/-- A store of a struct or array into a part. -/
theorem ao_storeP {t : TypeId} {x y : Operand} {b o n es : Nat} {cs ds : List Value} (hn : ∀ w, (sizeOf t).run P w = .ok n w) (hx : ρ x = .pointer (some ⟨b, o, none⟩)) (hy : ρ y = .agg ds.toArray)
    (hk : H.blk b = some (.cells cs es)) (hc : ds.length = n) (ho : ds.all isOne = true) (hl : o + n ≤ cs.length) :
    AOd P ⟨d, .store t x y, ty, pos, aft, g⟩ ρ H undef (H.set b (.cells (cs.take o ++ ds ++ cs.drop (o + n)) es)) := by
  have := ao_store (d := d) (ty := ty) (pos := pos) (aft := aft) (g := g) (ρ := ρ) (H := H) hn hx hy hk (by simpa [Value.cells] using hc) (by simpa [Value.cells] using ho) hl
  rw [writeL_eq _ _ _ (by simp [Value.cells, hc, hl])] at this
  simpa [Value.cells, hc] using this
/-- A literal of one element. -/
theorem ao_lit1 {t e : TypeId} {x : Operand} {size : Nat} {z v : Value} (hu : P.underlying t = some (.slice e)) (hn : ∀ w, (sizeOf e).run P w = .ok size w)
    (hz : ∀ w, (zeroValue e).run P w = .ok z w) (hzp : plainV z = true) (hzc : z.cells.size = size) (hs : Nat.blt 0 size = true) (hl : Nat.ble size 16777216 = true) (hx : ρ x = v) (hv : v.cells.size = size) :
    AOd P ⟨d, .buildSlice t 1 #[(0, x)], ty, pos, aft, g⟩ ρ H (.slice (some ⟨H.next, 0, none⟩) 1 1) (H.push (.cells v.cells.toList size)) := by
  have hs' : 0 < size := by simpa [Nat.blt_eq] using hs
  have hl' : size ≤ 16777216 := Nat.le_of_ble_eq_true hl
  have hA : litCells P e 1 size z.cells [(0, v)] = some v.cells := by
    unfold litCells
    simp only [Instr.fill]
    rw [if_neg (by simp [hv])]
    congr 1
    apply Array.ext
    · rw [← Array.foldl_toList, foldl_size]; simp [hv]
    · intro i h1 h2
      have key : ∀ (L : List (Value × Nat)) (X : Array Value) (i : Nat), (∀ p ∈ L, v.cells[p.2]? = some p.1) → i < X.size → ((∃ p ∈ L, p.2 = i) ∨ X[i]? = v.cells[i]?) →
          (L.foldl (fun cs (c, j) => cs.setIfInBounds (0 * size + j) c) X)[i]? = v.cells[i]? := by
        intro L
        induction L with
        | nil => intro X i _ _ h; rcases h with ⟨p, hp, _⟩ | h; cases hp; exact h
        | cons p L ih =>
          intro X i hL hi h
          obtain ⟨c, j⟩ := p
          rw [List.foldl_cons]
          refine ih _ i (fun p hp => hL p (List.mem_cons_of_mem _ hp)) (by simpa using hi) ?_
          have hj := hL (c, j) (List.mem_cons_self ..)
          simp only at hj
          by_cases e : j = i
          · subst e
            refine .inr ?_
            simp only [Nat.zero_mul, Nat.zero_add]
            rw [Array.getElem?_setIfInBounds_self_of_lt hi, hj]
          · rcases h with ⟨p, hp, hpi⟩ | h
            · rcases List.mem_cons.1 hp with rfl | hp
              · exact absurd hpi e
              · exact .inl ⟨p, hp, hpi⟩
            · refine .inr ?_
              simp only [Nat.zero_mul, Nat.zero_add]
              rw [Array.getElem?_setIfInBounds_ne e]; exact h
      have hk := key v.cells.zipIdx.toList ((Array.range (1 * size)).map (z.cells[· % z.cells.size]!)) i (by
        intro p hp
        simp only [Array.toList_zipIdx] at hp
        obtain ⟨j, hj, e⟩ := List.mem_iff_getElem.1 hp
        simp at e; subst e; simp at hj ⊢) (by simp; omega) (.inl ⟨(v.cells[i], i), by
          simp only [Array.toList_zipIdx]
          refine List.mem_iff_getElem.2 ⟨i, by simpa using h2, by simp⟩, rfl⟩)
      rw [Array.foldl_toList] at hk
      rw [Array.getElem?_eq_getElem h1, Array.getElem?_eq_getElem h2] at hk
      exact Option.some.inj hk
  have := ao_buildSlice (P := P) (H := H) (ρ := ρ) (d := d) (ty := ty) (pos := pos) (aft := aft) (g := g) (parts := #[(0, x)]) hu hn hz hzp hzc hs' (by omega) (by simp [hx]) hA
  exact this
/-- A literal of nothing. -/
theorem ao_lit0 {t e : TypeId} {size : Nat} {z : Value} (hu : P.underlying t = some (.slice e)) (hn : ∀ w, (sizeOf e).run P w = .ok size w)
    (hz : ∀ w, (zeroValue e).run P w = .ok z w) (hzp : plainV z = true) (hzc : z.cells.size = size) (hs : Nat.blt 0 size = true) :
    AOd P ⟨d, .buildSlice t 0 #[], ty, pos, aft, g⟩ ρ H (.slice (some ⟨H.next, 0, none⟩) 0 0) (H.push (.cells [] size)) := by
  have hA : litCells P e 0 size z.cells [] = some #[] := by
    unfold litCells; simp [Instr.fill]
  exact ao_buildSlice (P := P) (H := H) (ρ := ρ) (d := d) (ty := ty) (pos := pos) (aft := aft) (g := g) (parts := #[]) hu hn hz hzp hzc (by simpa [Nat.blt_eq] using hs) (by omega) rfl hA
end
end Go.AW
