/- Several texts in one. -/
import Derived.Test.YtmmmjdbknepjgaaDoorGb
import Derived.WideKeyRuns
/- Regions whose order is drawn, order by order. -/
namespace Go.AW
open Go
set_option linter.unusedVariables false
set_option linter.unusedSectionVars false
set_option linter.unusedSimpArgs false

section
variable {P : Program} {ops : Array Oper} {Q : Exit → AFr → AHeap → Prop} {fr : AFr} {H H1 : AHeap} {fuel : Nat} {listed : Array Bool}
def AA (P : Program) (ops : Array Oper) (Q : Exit → AFr → AHeap → Prop) (fuel : Nat) (listed : Array Bool) (fr : AFr) (H : AHeap) : Prop :=
  ∀ (n : Nat) (β0 : Bt) (w0 : World) (β : Bt) (a : Act) (w : World), Step n β0 w0 β w → n ≤ H.next → FRel β fr a → HRel β H w → wpAny P .any ops (Post n β0 w0 Q) fuel listed a w
def AAo (P : Program) (ops : Array Oper) (Q : Exit → AFr → AHeap → Prop) (fuel : Nat) (listed : Array Bool) (fr : AFr) (H : AHeap) (i : Nat) : Prop :=
  ∀ (n : Nat) (β0 : Bt) (w0 : World) (β : Bt) (a : Act) (w : World), Step n β0 w0 β w → n ≤ H.next → FRel β fr a → HRel β H w →
    wpOp P ops (Post n β0 w0 Q) i (wpAny P .any ops (Post n β0 w0 Q) fuel (listed.setIfInBounds i true)) a w

theorem aa_region {id : Nat} (hmo : P.follows .mixedOrders = true) (h : AA P ops Q ops.size (Array.replicate ops.size false) fr H) : AW P (.region id ops true) Q fr H :=
  fun β a w hf hh => wp_region_any hmo (h H.next β w β a _ (Step.drew _ _ _) (Nat.le_refl _) hf hh.drew)
theorem aa_done (hr : Region.ready .any ops listed = []) (h : Q .normal fr H) : AA P ops Q fuel listed fr H := by
  intro n β0 w0 β a w hs hn hf hh
  have hp : Post n β0 w0 Q .normal a w := ⟨fr, H, β, h, hf, hh, hs, hn⟩
  cases fuel with
  | zero => exact ⟨hr, hp⟩
  | succ fuel => exact ⟨fun _ => hp, by rw [hr]; intro i hi; cases hi⟩
theorem aa_all {rs : List Nat} (hr : Region.ready .any ops listed = rs) (hne : rs ≠ []) (h : ∀ i ∈ rs, AAo P ops Q fuel listed fr H i) : AA P ops Q (fuel + 1) listed fr H := by
  intro n β0 w0 β a w hs hn hf hh
  exact ⟨fun h0 => absurd (hr ▸ h0) hne, fun i hi => h i (hr ▸ hi) n β0 w0 β a w hs hn hf hh⟩
theorem aa_one {i : Nat} (hr : Region.ready .any ops listed = [i]) (h : AAo P ops Q fuel listed fr H i) : AA P ops Q (fuel + 1) listed fr H :=
  aa_all hr (by simp) (by intro j hj; rw [List.mem_singleton.mp hj]; exact h)
theorem aa_two {i j : Nat} (hr : Region.ready .any ops listed = [i, j]) (h : AAo P ops Q fuel listed fr H i) (k : AAo P ops Q fuel listed fr H j) : AA P ops Q (fuel + 1) listed fr H :=
  aa_all hr (by simp) (by
    intro x hx
    rcases List.mem_cons.mp hx with rfl | hx
    · exact h
    · rw [List.mem_singleton.mp hx]; exact k)
theorem aa_o {i : Nat} {o : Oper} {v : Value} (ho : ops[i]? = some o) (hg : o.guard = none) (hx : o.op.operands.toList.all okX = true) (hd : o.dst.all (fun d => Nat.blt d fr.n) = true) (hA : AOd P o fr.ev H v H1)
    (k : AA P ops Q fuel (listed.setIfInBounds i true) (fr.putO o.dst v) H1) : AAo P ops Q fuel listed fr H i := by
  intro n β0 w0 β a w hs hn hf hh
  have hxs : ∀ x ∈ o.op.operands, VR β (fr.ev x) (a.eval x) := fun x hm => hf.ev (List.all_eq_true.1 hx x (by simpa using hm))
  unfold wpOp
  simp only [ho]
  have hw : Region.wanted o (yielded ops a.tmps) = true := by unfold Region.wanted; rw [hg]
  rw [if_pos hw]
  refine .inl (gives_wp (hA β a.eval w hxs hh) ?_)
  rintro v' w' ⟨v1, H', β', ⟨rfl, rfl⟩, hv, hh', hst, hn'⟩
  have hf' : FRel β' (fr.putO o.dst v1) (a.put o.dst v') := by
    have hm := hf.mono hst.ext
    cases hdst : o.dst with
    | none => exact hm
    | some d =>
      rw [hdst] at hd
      exact hm.put (by simpa [Nat.blt_eq] using hd) hv
  exact k n β0 w0 β' _ w' (hs.trans hst hn) (Nat.le_trans hn hn') hf' hh'
end
end Go.AW

/- Regions whose order is drawn: one state for each set of operations that are done. -/
namespace Go.AW
open Go
set_option linter.unusedVariables false
set_option linter.unusedSectionVars false
section
variable {P : Program} {ops : Array Oper} {Q : Exit → AFr → AHeap → Prop} {fr : AFr} {H H1 : AHeap} {fuel : Nat} {listed : Array Bool}
theorem aw_gen {c : Code} {J : AFr → AHeap → Prop} (hJ : J fr H) (h : ∀ fr H, J fr H → AW P c Q fr H) : AW P c Q fr H := h fr H hJ
theorem aa_slot {d : Nat} {v : Value} (h : fr.get d = v) (k : AA P ops Q fuel listed (fr.put d v) H) : AA P ops Q fuel listed fr H := by rwa [AFr.put_same h] at k
theorem aax1 {i : Nat} (hr : Region.ready .any ops listed = [i]) (h : AAo P ops Q fuel listed fr H i) : AA P ops Q (fuel + 1) listed fr H := aa_one hr h
theorem aax2 {i j : Nat} (hr : Region.ready .any ops listed = [i, j]) (h : AAo P ops Q fuel listed fr H i) (k : AAo P ops Q fuel listed fr H j) : AA P ops Q (fuel + 1) listed fr H := aa_two hr h k
theorem aax3 {i j l : Nat} (hr : Region.ready .any ops listed = [i, j, l]) (h : AAo P ops Q fuel listed fr H i) (k : AAo P ops Q fuel listed fr H j) (m : AAo P ops Q fuel listed fr H l) : AA P ops Q (fuel + 1) listed fr H :=
  aa_all hr (by simp) (by
    intro x hx
    simp only [List.mem_cons, List.not_mem_nil, or_false] at hx
    rcases hx with rfl | rfl | rfl <;> assumption)
theorem aax4 {i j l o : Nat} (hr : Region.ready .any ops listed = [i, j, l, o]) (h : AAo P ops Q fuel listed fr H i) (k : AAo P ops Q fuel listed fr H j) (m : AAo P ops Q fuel listed fr H l) (n : AAo P ops Q fuel listed fr H o) : AA P ops Q (fuel + 1) listed fr H :=
  aa_all hr (by simp) (by
    intro x hx
    simp only [List.mem_cons, List.not_mem_nil, or_false] at hx
    rcases hx with rfl | rfl | rfl | rfl <;> assumption)
theorem aax5 {i j l o p : Nat} (hr : Region.ready .any ops listed = [i, j, l, o, p]) (h : AAo P ops Q fuel listed fr H i) (k : AAo P ops Q fuel listed fr H j) (m : AAo P ops Q fuel listed fr H l) (n : AAo P ops Q fuel listed fr H o) (q : AAo P ops Q fuel listed fr H p) : AA P ops Q (fuel + 1) listed fr H :=
  aa_all hr (by simp) (by
    intro x hx
    simp only [List.mem_cons, List.not_mem_nil, or_false] at hx
    rcases hx with rfl | rfl | rfl | rfl | rfl <;> assumption)
theorem aa_oL {listed' : Array Bool} {i : Nat} {o : Oper} {v : Value} (ho : ops[i]? = some o) (hg : o.guard = none) (hx : o.op.operands.toList.all okX = true) (hd : o.dst.all (fun d => Nat.blt d fr.n) = true) (hl : listed.setIfInBounds i true = listed') (hA : AOd P o fr.ev H v H1)
    (k : AA P ops Q fuel listed' (fr.putO o.dst v) H1) : AAo P ops Q fuel listed fr H i := by
  subst hl; exact aa_o ho hg hx hd hA k
end
end Go.AW

/- Operations that look at no memory may come first. -/
namespace Go.AW
open Go
set_option linter.unusedVariables false
set_option linter.unusedSectionVars false
/-- The same in every world. -/
def AOp (P : Program) (o : Oper) (ρ : Operand → Value) (H : AHeap) (v : Value) : Prop :=
  ∀ (β : Bt) (ρ' : Operand → Value) (w : World), (∀ x ∈ o.op.operands, VR β (ρ x) (ρ' x)) → HRel β H w → ∃ v', (∀ w', (execOp ρ' o).run P w' = .ok (.value v') w') ∧ VR β v v'
section
variable {P : Program} {ops : Array Oper} {Q : Exit → AFr → AHeap → Prop} {fr : AFr} {H H1 : AHeap} {fuel : Nat} {listed : Array Bool}
theorem aa_take {listed' : Array Bool} {i : Nat} {o : Oper} {v : Value} (ho : ops[i]? = some o) (hs : Region.noSelect ops = true) (hf : Region.free .any ops listed i = true) (hr : (Region.ready .any ops listed).contains i = true)
    (hg : o.guard = none) (hx : o.op.operands.toList.all okX = true) (hd : o.dst.all (fun d => Nat.blt d fr.n) = true) (hl : listed.setIfInBounds i true = listed') (hp : ∀ c fr H, ¬ Q (.panic c) fr H) (hA : AOp P o fr.ev H v)
    (k : AA P ops Q fuel listed' (fr.putO o.dst v) H) : AA P ops Q (fuel + 1) listed fr H := by
  subst hl
  intro n β0 w0 β a w hst hn hfr hh
  have hxs : ∀ x ∈ o.op.operands, VR β (fr.ev x) (a.eval x) := fun x hm => hfr.ev (List.all_eq_true.1 hx x (by simpa using hm))
  obtain ⟨v', hrun, hv⟩ := hA β a.eval w hxs hh
  refine wpAny_take (v := v') ho hs hf hr (fun c a w ⟨fr', H', β', q, _⟩ => absurd q (hp c fr' H')) (.inl ⟨by unfold Region.wanted; rw [hg], hrun⟩) ?_
  have hf' : FRel β (fr.putO o.dst v) (a.put o.dst v') := by
    cases hdst : o.dst with
    | none => exact hfr
    | some d =>
      rw [hdst] at hd
      exact hfr.put (by simpa [Nat.blt_eq] using hd) hv
  exact k n β0 w0 β _ w hst hn hf' hh
end
section
variable {P : Program} {ρ : Operand → Value} {H : AHeap} {d : Option Tmp} {ty : TypeId} {pos : String} {aft : Array Edge} {g : Option (Nat × Bool)}
theorem AOp.val {o : Oper} {v v' : Value} (h : AOp P o ρ H v) (e : v = v') : AOp P o ρ H v' := e ▸ h
theorem apm_mv {x : Operand} {v : Value} (hx : ρ x = v) : AOp P ⟨d, .move x, ty, pos, aft, g⟩ ρ H v := by
  subst hx
  exact fun β ρ' w hx _ => ⟨ρ' x, fun w' => by simp [execOp, Pure.pure], hx x (by simp [Op.operands])⟩
theorem apm_as {x : Operand} {v : Value} (hx : ρ x = v) : AOp P ⟨d, .assign x, ty, pos, aft, g⟩ ρ H v := by
  subst hx
  exact fun β ρ' w hx _ => ⟨ρ' x, fun w' => by simp [execOp, Pure.pure], hx x (by simp [Op.operands])⟩
theorem apm_add {xt yt : TypeId} {x y : Operand} {k : IntKind} {m n : Int} (hx : ρ x = .int k m) (hy : ρ y = .int k n) : AOp P ⟨d, .binOp .add xt x y yt, ty, pos, aft, g⟩ ρ H (.int k (k.wrap (m + n))) :=
  fun β ρ' w h _ => by
    obtain ⟨h1, h2⟩ := int2 hx hy h
    exact ⟨_, fun w' => by simp [execOp, h1, h2, go_sem, binOp, eqGuard, Op.intArith], .int _ _⟩
theorem apm_sub {xt yt : TypeId} {x y : Operand} {k : IntKind} {m n : Int} (hx : ρ x = .int k m) (hy : ρ y = .int k n) : AOp P ⟨d, .binOp .sub xt x y yt, ty, pos, aft, g⟩ ρ H (.int k (k.wrap (m - n))) :=
  fun β ρ' w h _ => by
    obtain ⟨h1, h2⟩ := int2 hx hy h
    exact ⟨_, fun w' => by simp [execOp, h1, h2, go_sem, binOp, eqGuard, Op.intArith], .int _ _⟩
theorem apm_fieldAddr {s : TypeId} {x : Operand} {f b o n : Nat} (hf : fieldOff P s f = some n) (hx : ρ x = .pointer (some ⟨b, o, none⟩)) :
    AOp P ⟨d, .fieldAddr s x f, ty, pos, aft, g⟩ ρ H (.pointer (some ⟨b, o + n, none⟩)) :=
  fun β ρ' w h hh => by
    have h1 := h x (by simp [Op.operands]); rw [hx] at h1
    obtain ⟨a', ha, hA⟩ := h1.ptr_inv
    unfold fieldOff at hf
    split at hf
    · rename_i fields hu
      split at hf
      · rename_i fd hfd
        split at hf
        · rename_i i hi
          split at hf
          · cases hf
          · rename_i h0
            cases hf
            refine ⟨.pointer (some (a'.add fd.offset)), fun w' => ?_, .ptr (hA.add _)⟩
            simp [execOp, ha, go_sem, Instr.fieldAt, Instr.sureAddr, underlying, hu, hfd, fieldPlace, sizeOf, typeInfo, hi, h0]
        · cases hf
      · cases hf
    · cases hf
theorem apm_sliceHi {t e : TypeId} {x hi : Operand} {b o len c n h : Nat} {k2 : IntKind} {j : Int} {k : ABlk} (hu : P.underlying t = some (.slice e)) (hn : ∀ w, (sizeOf e).run P w = .ok n w)
    (hx : ρ x = .slice (some ⟨b, o, none⟩) len c) (hhi : ρ hi = .int k2 j) (hj' : j = (h : Int)) (hk : H.blk b = some k) (hf : k.fits n) (h2 : h ≤ len) :
    AOp P ⟨d, .slice t x none (some hi) none, ty, pos, aft, g⟩ ρ H (.slice (some ⟨b, o, none⟩) h (h + 1)) :=
  fun β ρ' w hv hh => by
    have q1 := hv x (by simp [Op.operands]); rw [hx] at q1
    have q3 := hv hi (by simp [Op.operands]); rw [hhi] at q3
    obtain ⟨a', c', ha, hA⟩ := q1.slice_inv
    have key := hA.part hh hk hf (Nat.zero_le h) h2 (c2 := h - 0 + 1) (fun e => by omega)
    have e0 : (⟨b, o + 0 * n, none⟩ : Addr) = ⟨b, o, none⟩ := by simp
    rw [e0] at key
    simp only [Nat.sub_zero] at key
    refine ⟨_, fun w' => ?_, key⟩
    have := hA.2.2.1
    subst hj'
    simp [execOp, ha, q3.int_inv, go_sem, Instr.sliceAt, Instr.slice, underlying, hu, hn, Instr.sliceBounds, Instr.sliceBound, asIntOf, show h ≤ c' by omega]
theorem apm_sliceLo {t e : TypeId} {x lo : Operand} {b o len c n l : Nat} {k1 : IntKind} {i : Int} {k : ABlk} (hu : P.underlying t = some (.slice e)) (hn : ∀ w, (sizeOf e).run P w = .ok n w)
    (hx : ρ x = .slice (some ⟨b, o, none⟩) len c) (hlo : ρ lo = .int k1 i) (hi' : i = (l : Int)) (hk : H.blk b = some k) (hf : k.fits n) (h1 : l ≤ len) :
    AOp P ⟨d, .slice t x (some lo) none none, ty, pos, aft, g⟩ ρ H (.slice (some ⟨b, o + l * n, none⟩) (len - l) (len - l + 1)) :=
  fun β ρ' w hv hh => by
    have q1 := hv x (by simp [Op.operands]); rw [hx] at q1
    have q2 := hv lo (by simp [Op.operands]); rw [hlo] at q2
    obtain ⟨a', c', ha, hA⟩ := q1.slice_inv
    refine ⟨_, fun w' => ?_, hA.part hh hk hf h1 (Nat.le_refl _) (c2 := len - l + 1) (fun e => by omega)⟩
    have := hA.2.2.1
    subst hi'
    simp [execOp, ha, q2.int_inv, go_sem, Instr.sliceAt, Instr.slice, underlying, hu, hn, Instr.sliceBounds, Instr.sliceBound, asIntOf, h1]
theorem apm_build {t : TypeId} {z : Value} {parts : Array (Nat × Operand)} {ps : List (Nat × Value)} {A : Array Value} {fields : Array Field} (hz : ∀ w, (zeroValue t).run P w = .ok z w) (hzp : plainV z = true) (hu : P.underlying t = some (.struct fields))
    (hi : (fields.toList.all fun f => (P.info? f.type).isSome) = true)
    (hps : parts.toList.map (fun p => (p.1, ρ p.2)) = ps) (hA : buildOf P t z ps = some A) :
    AOp P ⟨d, .build t parts, ty, pos, aft, g⟩ ρ H (.agg A) :=
  fun β ρ' w h hh => by
    have hrel := parts_rel (ps := parts) (ρ := ρ) (ρ' := ρ') (β := β) (by simpa [Op.operands] using h)
    have hps' : (parts.map fun (i, x) => (i, ρ x)).toList = ps := by rw [Array.toList_map]; exact hps
    rw [hps'] at hrel
    unfold buildOf at hA
    rw [hu] at hA
    simp only at hA
    obtain ⟨B, hB, hAB⟩ := fill_rel (β := β) _ ps (parts.map fun (i, x) => (i, ρ' x)).toList _ _ A (vrl_plain hzp) (by rw [← hps]; simp) hrel hA
    refine ⟨.agg B, fun w' => ?_, .agg (by have := hAB.1; simpa using this) fun i x y hx hy => hAB.2 i x y (by simpa using hx) (by simpa using hy)⟩
    have hex : (execOp ρ' ⟨d, .build t parts, ty, pos, aft, g⟩).run P w' = ((Instr.build t (parts.map fun (i, x) => (i, ρ' x))).run P w').andThen fun v w => .ok (.value v) w := by
      unfold execOp
      rw [Sem.run_bind]
      rfl
    have hpl := run_places (P := P) (fields := fields) (w := w') fun f hf => by
      have := List.all_eq_true.1 hi f hf
      exact Option.isSome_iff_exists.1 this
    have : (Instr.build t (parts.map fun (i, x) => (i, ρ' x))).run P w' = .ok (.agg B) w' := by
      unfold Instr.build
      rw [Sem.run_bind, hz]
      simp only [Result.andThen_ok]
      rw [Sem.run_bind, run_underlying hu w']
      simp only [Result.andThen_ok]
      rw [Sem.run_bind, hpl]
      simp only [Result.andThen_ok]
      rw [hB]; rfl
    rw [hex, this]; rfl
end
end Go.AW

/- append of n zero values to nil; the room of nil; a part of nil. -/
namespace Go.AW
open Go
set_option linter.unusedVariables false
set_option linter.unusedSimpArgs false

section
variable {P : Program} {Q : Exit → AFr → AHeap → Prop} {fr : AFr} {H H' : AHeap} {ρ : Operand → Value} {g : Option (Nat × Bool)} {d : Option Tmp} {ty : TypeId} {pos : String} {aft : Array Edge}

theorem ao_capN {t e : TypeId} {x : Operand} (hu : P.underlying t = some (.slice e)) (hx : ρ x = .slice none 0 0) :
    AOd P ⟨d, .call ⟨.builtin .cap, #[x], #[t]⟩, ty, pos, aft, g⟩ ρ H (.int .i64 (0 : Nat)) H :=
  AO.pure fun β ρ' w hv hh => by
    have q1 := hv x (by simp [Op.operands, Call.operands]); rw [hx] at q1
    exact ⟨_, by simp [execOp, q1.nil_inv, go_sem, resolve, invoke, builtin, Builtin.cap_, underlying, hu, goInt], .int _ _⟩

theorem ao_sliceN {t e : TypeId} {x hi : Operand} {n : Nat} {k2 : IntKind} (hu : P.underlying t = some (.slice e)) (hn : ∀ w, (sizeOf e).run P w = .ok n w)
    (hx : ρ x = .slice none 0 0) (hhi : ρ hi = .int k2 0) : AOd P ⟨d, .slice t x none (some hi) none, ty, pos, aft, g⟩ ρ H (.slice none 0 0) H :=
  AO.pure fun β ρ' w hv hh => by
    have q1 := hv x (by simp [Op.operands]); rw [hx] at q1
    have q3 := hv hi (by simp [Op.operands]); rw [hhi] at q3
    refine ⟨_, ?_, q1.nil_inv ▸ q1⟩
    simp [execOp, q1.nil_inv, q3.int_inv, go_sem, Instr.sliceAt, Instr.slice, underlying, hu, hn, Instr.sliceBounds, Instr.sliceBound, asIntOf]

theorem run_app_zeros {t tx ty e : TypeId} {i : TypeInfo} {z : Value} {w : World} {kx : IntKind} (ht : P.underlying t = some (.slice e)) (htx : P.underlying tx = some (.int kx)) (hi : P.info? e = some i) (hz : i.zero = some z)
    {n : Nat} (h0 : 0 < n) (hs : 0 < i.size) (h63 : (n : Int) ≤ 4611686018427387904) (hby : n * i.bytes ≤ 140737488355328) :
    (Builtin.append_ #[t, tx] ty #[.slice none 0 0, .int .i64 (n : Int)]).run P w =
      .ok (.slice (some ⟨w.heap.size, 0, none⟩) n (grownCap w n 0 e)) (w.drew.alloc (.cells (Builtin.zeroCells z.cells n ++ Builtin.zeroCells z.cells (grownCap w n 0 e - n)) e)) := by
  have hn : ¬ (n ≤ 0) := by omega
  have hfit := growslice_fits (old := 0) (need := n) (bytes := i.bytes) h0 hby
  have h48' : ¬ (281474976710656 < Builtin.nextslicecap n 0 * i.bytes) := by omega
  have hw : IntKind.i64.wrap (n : Int) = (n : Int) := nw (by show (-9223372036854775808 : Int) ≤ _; omega) (by show _ ≤ (9223372036854775807 : Int); omega)
  have hb2 : ¬ (281474976710656 < (n : Int) * (i.bytes : Int)) := by
    have : ((n * i.bytes : Nat) : Int) ≤ ((140737488355328 : Nat) : Int) := Int.ofNat_le.mpr hby
    rw [Int.natCast_mul] at this
    exact fun q => absurd (Int.lt_of_lt_of_le q this) (by decide)
  have h63' : ¬ ((9223372036854775807 : Int) < (n : Int)) := by omega
  have hneg : ¬ ((n : Int) < 0) := by omega
  have hn0 : n ≠ 0 := by omega
  have hns : n * i.size ≠ 0 := Nat.mul_ne_zero hn0 (by omega)
  simp [Builtin.append_, run_underlying ht, run_underlying htx, sizeOf, typeInfo, zeroValue, hi, hz, Builtin.lenOf, hn, h63', h48', hb2, hneg, hw, hn0, hns, asInt, Question.forced, newRow, grownCap, Builtin.firstCells, go_sem]

theorem vrl_zeroCells {β : Bt} {z : Value} (hz : plainV z = true) (h0 : 0 < z.cells.size) (n : Nat) : VRL β (Builtin.zeroCells z.cells n).toList (Builtin.zeroCells z.cells n).toList := by
  refine vrl_zeros fun v hv => ?_
  simp only [Builtin.zeroCells, Array.mem_map] at hv
  obtain ⟨j, _, rfl⟩ := hv
  have hlt : j % z.cells.size < z.cells.size := Nat.mod_lt _ h0
  rw [getElem!_pos z.cells _ hlt]
  exact (vrl_plain hz).2 (j % z.cells.size) _ _ (by simp [hlt]) (by simp [hlt])

theorem ao_appM {t tx e : TypeId} {s x : Operand} {n size bytes : Nat} {z : Value} {kx : IntKind} (ht : P.underlying t = some (.slice e)) (htx : P.underlying tx = some (.int kx)) (he : Elem P e size bytes) (hzv : ∀ w, (zeroValue e).run P w = .ok z w)
    (hzp : plainV z = true) (hs : ρ s = .slice none 0 0) (hx : ρ x = .int .i64 (n : Int)) (h0 : 0 < n) (hsz : 0 < size) (h63 : (n : Int) ≤ 4611686018427387904) (hby : n * bytes ≤ 140737488355328) :
    AOd P ⟨d, .call ⟨.builtin .append, #[s, x], #[t, tx]⟩, ty, pos, aft, g⟩ ρ H (.slice (some ⟨H.next, 0, none⟩) n (n + 1)) (H.push (.cells (Builtin.zeroCells z.cells n).toList size)) := by
  intro β ρ' w h hh
  have q1 := h s (by simp [Op.operands, Call.operands]); rw [hs] at q1
  have q2 := h x (by simp [Op.operands, Call.operands]); rw [hx] at q2
  obtain ⟨i, z', hi, hz, rfl, rfl, hzs⟩ := he
  have hzz : z' = z := by
    have := hzv w
    simp [zeroValue, typeInfo, hi, hz] at this
    exact this
  subst hzz
  have hr := run_app_zeros (P := P) (ty := ty) (w := w) ht htx hi hz h0 hsz h63 hby
  refine gives_value (app_run (v := .slice (some ⟨w.heap.size, 0, none⟩) n (grownCap w n 0 e)) (by rw [q1.nil_inv, q2.int_inv]; exact hr)) ?_
  have := app_new (n := n) (size := i.size) (e := e) (c' := grownCap w n 0 e) (olds := []) (news := (Builtin.zeroCells z'.cells n).toList) (O := #[]) (N := Builtin.zeroCells z'.cells n) (Z := Builtin.zeroCells z'.cells (grownCap w n 0 e - n)) hh (VRL.nil _) (vrl_zeroCells hzp (by omega) n)
    (by simp [size_zeroCells', hzs]) (grownCap_ge _ _ _ _) (by rw [size_zeroCells', hzs])
  simpa using this
end
/-- A result that leads to one new block, told with fewer cells. -/
theorem ac_gcsP {P : Program} {f : FuncId} {args : List Value} {H : AHeap} {v2 : Value} {cs : List Value} {es : Nat} (hl : ∀ β : Bt, VRL β cs cs)
    (h : AC P f args H (fun v H' => Same H.next H H' ∧ ∃ b' r, H.next ≤ b' ∧ H'.blk b' = some (.cells (cs ++ r) es) ∧ ∀ ρ : Bt, ρ H.next = some (ren b') → VR ρ v2 v)) :
    ACd P f args H v2 (H.push (.cells cs es)) := by
  refine ac_gc h ?_
  rintro v H' ⟨hs, b', r, hb', hk, hv⟩
  have hn : keepB H.next (fun b => bif Nat.beq b H.next then some (ren b') else none) H.next = some (ren b') := by
    rw [keepB_ge _ (Nat.le_refl _), beq_self]; rfl
  refine ⟨v2, H.push (.cells cs es), fun b => bif Nat.beq b H.next then some (ren b') else none, ⟨rfl, rfl⟩, ⟨?_, by rw [next_push]; omega, hv _ hn, fun b hb => ?_, fun b hb => .inl (hs b hb), fun b h1 h2 => ?_, fun b h1 => ?_, fun b1 b2 c _ _ h1 h2 => ?_⟩⟩
  · intro b t hb
    dsimp only at hb
    by_cases e : b = H.next
    · subst e; rw [beq_self] at hb; cases hb; exact ⟨b', rfl⟩
    · rw [beq_ne e] at hb; cases hb
  · rw [blk_push_ne (by omega)]; exact (hs b hb).symm
  · have e : b = H.next := by rw [next_push] at h2; omega
    subst e
    exact ⟨b', _, _, by rw [beq_self]; rfl, hb', blk_push_new _ _, hk, .part (hl _)⟩
  · rw [next_push] at h1; rw [beq_ne (by omega)]; rfl
  · by_cases e1 : b1 = H.next
    · by_cases e2 : b2 = H.next
      · rw [e1, e2]
      · rw [beq_ne e2] at h2; cases h2
    · rw [beq_ne e1] at h1; cases h1
theorem zero63 (n : Nat) (h : (n : Int) ≤ 4611686018427387904) : Value.int .i64 (IntKind.i64.wrap ((n : Int) - 0)) = .int .i64 (n : Int) := by
  rw [Int.sub_zero, nw (by show (-9223372036854775808 : Int) ≤ _; omega) (by show _ ≤ (9223372036854775807 : Int); omega)]
end Go.AW

/- Writing in place: append that fits, slices up to the capacity, clear. -/
namespace Go.AW
open Go
set_option linter.unusedVariables false
set_option linter.unusedSectionVars false
set_option linter.unusedSimpArgs false
/-- Where a block of cells lies. -/
theorem SR.live {β : Bt} {H : AHeap} {w : World} (hh : HRel β H w) {b o n c c' es : Nat} {a' : Addr} {cs : List Value} (hS : SR β ⟨b, o, none⟩ a' n c c') (hk : H.blk b = some (.cells cs es)) :
    ∃ B off S, β b = some (.live B off S es true) := by
  obtain ⟨_, _, _, _, t', s5, s6⟩ := hS
  cases t' with
  | stale => have := hh.stale b s5; rw [hk] at this; cases this
  | live B off S es own =>
    obtain ⟨k, hk', hr⟩ := hh.rel b B off S es own s5
    rw [hk] at hk'; cases hk'
    obtain ⟨_, _, _, _, _, _, _, ho, hz, _⟩ := hr
    subst ho; subst hz
    exact ⟨B, off, S, s5⟩
/-- The reach of what a capacity says. -/
theorem SR.grow {β : Bt} {b o n N c' B off S es : Nat} {a' : Addr} (hb : β b = some (.live B off S es true)) (hS : SR β ⟨b, o, none⟩ a' n (N + 1) c') (h : n < N) {m : Nat} (hm : m ≤ N) : SR β ⟨b, o, none⟩ a' m (N + 1) c' ∧ N ≤ c' ∧ a' = ⟨B, off + o, none⟩ := by
  obtain ⟨s1, s2, s3, s4, t', s5, s6⟩ := hS
  rw [show (⟨b, o, none⟩ : Addr).block = b from rfl, hb] at s5; cases s5
  obtain ⟨k1, k2, k3⟩ := s6 B off S es true rfl
  have hN := (k3 (by omega)).1 rfl
  rcases k2 with ⟨k2, k4⟩ | ⟨k2, k4⟩
  · omega
  refine ⟨⟨s1, s2, by omega, fun e => by omega, _, hb, fun B1 o1 S1 es1 own1 e => ?_⟩, by omega, ?_⟩
  · cases e
    exact ⟨k1, .inr ⟨k2, k4⟩, fun _ => ⟨fun _ => hN, fun e => by cases e⟩⟩
  · obtain ⟨x1, x2, x3⟩ := a'
    simp only at k1 k2 s2
    subst k1; subst k2; subst s2; rfl
section
variable {P : Program} {ρ : Operand → Value} {H : AHeap} {d : Option Tmp} {ty : TypeId} {pos : String} {aft : Array Edge} {g : Option (Nat × Bool)}
/-- x[:h] of a slice of one's own: the room is kept. -/
theorem ao_sliceHiC {t e : TypeId} {x hi : Operand} {b o len c n es h : Nat} {k2 : IntKind} {j : Int} {cs : List Value} (hu : P.underlying t = some (.slice e)) (hn : ∀ w, (sizeOf e).run P w = .ok n w)
    (hx : ρ x = .slice (some ⟨b, o, none⟩) len c) (hhi : ρ hi = .int k2 j) (hj' : j = (h : Int)) (hk : H.blk b = some (.cells cs es)) (h2 : h ≤ len) :
    AOd P ⟨d, .slice t x none (some hi) none, ty, pos, aft, g⟩ ρ H (.slice (some ⟨b, o, none⟩) h (len + 1)) H :=
  AO.pure fun β ρ' w hv hh => by
    have q1 := hv x (by simp [Op.operands]); rw [hx] at q1
    have q3 := hv hi (by simp [Op.operands]); rw [hhi] at q3
    obtain ⟨a', c', ha, hA⟩ := q1.slice_inv
    obtain ⟨B, off, S, hb⟩ := hA.live hh hk
    obtain ⟨s1, s2, s3, s4, t', s5, s6⟩ := hA
    rw [show (⟨b, o, none⟩ : Addr).block = b from rfl, hb] at s5; cases s5
    obtain ⟨p1, p2, p3⟩ := s6 B off S es true rfl
    refine ⟨.slice (some a') h c', ?_, .slice ⟨s1, s2, by omega, fun e => by omega, _, hb, fun B1 o1 S1 es1 own1 e => ?_⟩⟩
    · subst hj'
      simp [execOp, ha, q3.int_inv, go_sem, Instr.sliceAt, Instr.slice, underlying, hu, hn, Instr.sliceBounds, Instr.sliceBound, asIntOf, show h ≤ c' by omega]
    · cases e
      refine ⟨p1, ?_, fun _ => ⟨fun _ => by omega, fun e => by cases e⟩⟩
      rcases p2 with ⟨p2, p4⟩ | p2
      · exact .inl ⟨by omega, p4⟩
      · exact .inr p2
/-- x[l:h:m]. -/
theorem ao_slice3 {t e : TypeId} {x lo hi mx : Operand} {b o len c n l h m : Nat} {k1 k2 k3 : IntKind} {i j q : Int} {cs : List Value} (hu : P.underlying t = some (.slice e)) (hn : ∀ w, (sizeOf e).run P w = .ok n w)
    (hx : ρ x = .slice (some ⟨b, o, none⟩) len c) (hlo : ρ lo = .int k1 i) (hhi : ρ hi = .int k2 j) (hmx : ρ mx = .int k3 q) (hi' : i = (l : Int)) (hj' : j = (h : Int)) (hq' : q = (m : Int)) (hk : H.blk b = some (.cells cs n))
    (h1 : l ≤ h) (h2 : h ≤ m) (h3 : m ≤ len) (h4 : l < m) :
    AOd P ⟨d, .slice t x (some lo) (some hi) (some mx), ty, pos, aft, g⟩ ρ H (.slice (some ⟨b, o + l * n, none⟩) (h - l) (h - l + 1)) H :=
  AO.pure fun β ρ' w hv hh => by
    have q1 := hv x (by simp [Op.operands]); rw [hx] at q1
    have q2 := hv lo (by simp [Op.operands]); rw [hlo] at q2
    have q3 := hv hi (by simp [Op.operands]); rw [hhi] at q3
    have q4 := hv mx (by simp [Op.operands]); rw [hmx] at q4
    obtain ⟨a', c', ha, hA⟩ := q1.slice_inv
    obtain ⟨B, off, S, hb⟩ := hA.live hh hk
    obtain ⟨s1, s2, s3, s4, t', s5, s6⟩ := hA
    rw [show (⟨b, o, none⟩ : Addr).block = b from rfl, hb] at s5; cases s5
    obtain ⟨p1, p2, p3⟩ := s6 B off S n true rfl
    have hA2 : SR β ⟨b, o, none⟩ a' m (m + 1) m := by
      refine ⟨s1, s2, Nat.le_refl _, fun e => rfl, _, hb, fun B1 o1 S1 es1 own1 e => ?_⟩
      cases e
      refine ⟨p1, ?_, fun e => by omega⟩
      rcases p2 with ⟨p2, p4⟩ | ⟨p2, p4⟩
      · omega
      · have hm : m * n ≤ c' * n := Nat.mul_le_mul_right _ (by omega)
        exact .inr ⟨p2, fun e => by have := p4 e; omega⟩
    have hp := hA2.part hh hk (n := n) rfl h1 h2 (c2 := h - l + 1) (fun e => by omega)
    refine ⟨_, ?_, hp⟩
    subst hi'; subst hj'; subst hq'
    simp [execOp, ha, q2.int_inv, q3.int_inv, q4.int_inv, go_sem, Instr.sliceAt, Instr.slice, underlying, hu, hn, Instr.sliceBounds, Instr.sliceBound, asIntOf, show m ≤ c' by omega, h1, h2]
/-- x[l:h] beyond the length, up to the capacity. -/
theorem ao_sliceOver {t e : TypeId} {x lo hi : Operand} {b o len N n l h : Nat} {k1 k2 : IntKind} {i j : Int} {cs : List Value} (hu : P.underlying t = some (.slice e)) (hn : ∀ w, (sizeOf e).run P w = .ok n w)
    (hx : ρ x = .slice (some ⟨b, o, none⟩) len (N + 1)) (hlo : ρ lo = .int k1 i) (hhi : ρ hi = .int k2 j) (hi' : i = (l : Int)) (hj' : j = (h : Int)) (hk : H.blk b = some (.cells cs n)) (hlt : len < N) (h1 : l ≤ h) (h2 : h ≤ N) :
    AOd P ⟨d, .slice t x (some lo) (some hi) none, ty, pos, aft, g⟩ ρ H (.slice (some ⟨b, o + l * n, none⟩) (h - l) (h - l + 1)) H :=
  AO.pure fun β ρ' w hv hh => by
    have q1 := hv x (by simp [Op.operands]); rw [hx] at q1
    have q2 := hv lo (by simp [Op.operands]); rw [hlo] at q2
    have q3 := hv hi (by simp [Op.operands]); rw [hhi] at q3
    obtain ⟨a', c', ha, hA⟩ := q1.slice_inv
    obtain ⟨B, off, S, hb⟩ := hA.live hh hk
    obtain ⟨hA2, hN, _⟩ := hA.grow hb hlt (Nat.le_refl N)
    refine ⟨_, ?_, hA2.part hh hk (n := n) rfl h1 h2 (c2 := h - l + 1) (fun e => by omega)⟩
    subst hi'; subst hj'
    simp [execOp, ha, q2.int_inv, q3.int_inv, go_sem, Instr.sliceAt, Instr.slice, underlying, hu, hn, Instr.sliceBounds, Instr.sliceBound, asIntOf, show h ≤ c' by omega, h1]
/-- append where there is room: in place. -/
theorem ao_appFit {t tx e : TypeId} {s x : Operand} {b o n N m size bytes : Nat} {xv : Value} {news cs : List Value} (ht : P.underlying t = some (.slice e)) (htx : ∃ e2, P.underlying tx = some (.slice e2)) (he : Elem P e size bytes)
    (hs : ρ s = .slice (some ⟨b, o, none⟩) n (N + 1)) (hx : ρ x = xv) (hk : H.blk b = some (.cells cs size)) (hsrc : Src H size xv m news) (hone : news.all isOne = true) (hlt : n < N) (hm : n + m ≤ N) (hl : o + N * size ≤ cs.length) :
    AOd P ⟨d, .call ⟨.builtin .append, #[s, x], #[t, tx]⟩, ty, pos, aft, g⟩ ρ H (.slice (some ⟨b, o, none⟩) (n + m) (N + 1)) (H.set b (.cells (writeL cs (o + n * size) news) size)) := by
  intro β ρ' w h hh
  have q1 := h s (by simp [Op.operands, Call.operands]); rw [hs] at q1
  have q2 := h x (by simp [Op.operands, Call.operands]); rw [hx] at q2
  obtain ⟨i, z, hi, hz, rfl, rfl, hzs⟩ := he
  obtain ⟨a', c', hsv, hS⟩ := q1.slice_inv
  obtain ⟨B, off, S, hb⟩ := hS.live hh hk
  obtain ⟨hS2, hN, rfl⟩ := hS.grow hb hlt hm
  obtain ⟨hl2, ao, cx, Ns, hxv, hNs, hrun⟩ := hsrc.cells (P := P) hh q2
  rw [hxv] at hrun
  have hroom : (n + m) * i.size ≤ N * i.size := Nat.mul_le_mul_right _ hm
  rw [Nat.add_mul] at hroom
  obtain ⟨w', r1, r2, r3⟩ := HRel.writes P hb news Ns (o + n * i.size) 0 hh hk (by rw [hl2]; omega) hNs (fun u hu => List.all_eq_true.mp hone u hu)
  have hadd : (⟨B, off + o, none⟩ : Addr).add (n * i.size) = ⟨B, off + (o + n * i.size), none⟩ := by rw [add_none rfl]; simp only; congr 1; omega
  have hr : (Builtin.append_ #[t, tx] ty #[.slice (some ⟨B, off + o, none⟩) n c', .slice ao m cx]).run P w = .ok (.slice (some ⟨B, off + o, none⟩) (n + m) c') w' :=
    run_app_fits (a := some ⟨B, off + o, none⟩) (n := n) (c := c') ht htx hi hrun (by omega) (fun ad e => by cases e; rw [hadd]; exact r1) (fun e => by cases e)
  exact gives_value (app_run (v := .slice (some ⟨B, off + o, none⟩) (n + m) c') (by rw [hsv, hxv]; exact hr)) ⟨_, _, β, ⟨rfl, rfl⟩, .slice hS2, r2, r3, Nat.le_refl _⟩
end
section
variable {P : Program} {ρ : Operand → Value} {H : AHeap} {d : Option Tmp} {ty : TypeId} {pos : String} {aft : Array Edge} {g : Option (Nat × Bool)}
/-- clear of a slice of one's own. -/
theorem ao_clear {α : Type} {el : α → List Value} {z0 : α} {t e : TypeId} {x : Operand} {b o n c es size : Nat} {z : Value} {cs : List Value} (ht : P.underlying t = some (.slice e)) (hz : ∀ w, (zeroValue e).run P w = .ok z w) (he : el z0 = z.cells.toList)
    (hsz : z.cells.size = size) (hpl : (el z0).all plain1 = true) (hon : (el z0).all isOne = true) (hx : ρ x = .slice (some ⟨b, o, none⟩) n c) (hk : H.blk b = some (.cells cs es)) (hl : o + n * size ≤ cs.length) :
    AOd P ⟨d, .call ⟨.builtin .clear, #[x], #[t]⟩, ty, pos, aft, g⟩ ρ H (.tuple #[]) (H.set b (.cells (writeL cs o (fl el (List.replicate n z0))) es)) := by
  intro β ρ' w h hh
  have h1 := h x (by simp [Op.operands, Call.operands]); rw [hx] at h1
  obtain ⟨a', c', ha, hS⟩ := h1.slice_inv
  have hrun : ∀ w', (Builtin.clear_ #[t] ty #[ρ' x]).run P w = .ok (.tuple #[]) w' → (execOp ρ' ⟨d, .call ⟨.builtin .clear, #[x], #[t]⟩, ty, pos, aft, g⟩).run P w = .ok (.value (.tuple #[])) w' := by
    intro w' hr
    have : (execOp ρ' ⟨d, .call ⟨.builtin .clear, #[x], #[t]⟩, ty, pos, aft, g⟩).run P w = ((Builtin.clear_ #[t] ty #[ρ' x]).run P w).andThen fun v w => .ok (.value v) w := by
      simp only [execOp, resolve]
      rw [Sem.run_bind]
      simp only [Sem.run_pure, Result.andThen_ok, invoke, builtin, List.map_toArray, List.map_cons, List.map_nil]
      rw [Sem.run_bind]; rfl
    rw [this, hr]; rfl
  have htup : VR β (.tuple #[]) (.tuple #[]) := .tuple rfl (by intro i u u' hu; simp at hu)
  by_cases h0 : n = 0
  · subst h0
    have e0 : writeL cs o (fl el (List.replicate 0 z0)) = cs := rfl
    rw [e0, set_self hk]
    refine gives_value (hrun w ?_) ⟨_, H, β, ⟨rfl, rfl⟩, htup, hh, Step.refl _ _ _, Nat.le_refl _⟩
    rw [ha]
    unfold Builtin.clear_
    simp [run_underlying ht]
  · have hA := hS.addr (by omega)
    obtain ⟨B, off, S, es', own, hb, rfl, hbr⟩ := hh.at hA hk
    obtain ⟨C, e', fz, g1, g2, g3, g4, g5, g6, g7⟩ := hbr
    subst g5; subst g6
    have hzc : (Builtin.zeroCells z.cells n).toList = fl el (List.replicate n z0) := by
      have := made_fl (el := el) (z0 := z0) (zs := z.cells) (es := z.cells.size) rfl he n
      rw [← this]; rfl
    have hlen : (fl el (List.replicate n z0)).length = n * size := by rw [← hzc]; simp [Builtin.zeroCells, hsz]
    have hmem : ∀ v ∈ fl el (List.replicate n z0), v ∈ el z0 := by
      intro v hv
      obtain ⟨y, hy, hvy⟩ := List.mem_flatMap.mp hv
      rw [List.eq_of_mem_replicate hy] at hvy; exact hvy
    have hvl : VRL β (fl el (List.replicate n z0)) (fl el (List.replicate n z0)) := ⟨rfl, fun i u v hu hv => by
      rw [hu] at hv; cases hv
      exact VR.plain1 β (List.all_eq_true.mp hpl u (hmem u (List.mem_of_getElem? hu)))⟩
    obtain ⟨w', r1, r2, r3⟩ := HRel.writes P hb (fl el (List.replicate n z0)) (fl el (List.replicate n z0)) o 0 hh hk (by rw [hlen]; omega) hvl (fun u hu => List.all_eq_true.mp hon u (hmem u hu))
    refine gives_value (hrun w' ?_) ⟨_, _, β, ⟨rfl, rfl⟩, htup, r2, r3, Nat.le_refl _⟩
    rw [ha]
    obtain ⟨m, rfl⟩ : ∃ m, n = m + 1 := ⟨n - 1, by omega⟩
    unfold Builtin.clear_
    simp [run_underlying ht, Sem.run_bind, hz, hzc]
    have r1' : (storeCells ⟨B, off + o, none⟩ (fl el (List.replicate (m + 1) z0))).run P w = .ok () w' := r1
    rw [r1']; rfl
end
/-- A value that names one old block, whose cells have turned. -/
theorem ac_gc1s {P : Program} {f : FuncId} {args : List Value} {H : AHeap} {v : Value} {b0 : Nat} {cs : List Value} {es : Nat} (hp : ∀ ρ : Bt, ρ b0 = some (ren b0) → VR ρ v v) (hl : ∀ β : Bt, VRL β cs cs) (hb0 : ∃ k, H.blk b0 = some k)
    (h : AC P f args H (fun v' H' => v' = v ∧ Same H.next (H.set b0 (.cells cs es)) H')) : ACd P f args H v (H.set b0 (.cells cs es)) := by
  refine ac_gc h ?_
  rintro v' H' ⟨rfl, hs⟩
  obtain ⟨k, hk⟩ := hb0
  refine ⟨v', H.set b0 (.cells cs es), noB, ⟨rfl, rfl⟩, ⟨(fun b t hb => by cases hb), Nat.le_refl _, hp _ (keepB_lt _ (AHeap.lt hk)), fun b hb => (hs b hb).symm, fun b hb => ?_, (fun b h1 h2 => by rw [next_set] at h2; omega), fun b _ => rfl, (fun b1 b2 b' _ _ h => by cases h)⟩⟩
  by_cases e : b = b0
  · subst e
    exact .inr ⟨cs, es, by rw [hs b hb]; exact blk_set_same hk, hl⟩
  · exact .inl (by rw [hs b hb]; exact blk_set_ne e)
theorem Same.reset {n : Nat} {H G : AHeap} {b : Nat} {k k1 k2 : ABlk} (hk : H.blk b = some k) (hb : b < n) (h : Same n (H.set b k1) G) : Same n (H.set b k2) (G.set b k2) := by
  intro j hj
  by_cases e : j = b
  · subst e
    rw [blk_set_same ((h j hj).trans (blk_set_same hk)), blk_set_same hk]
  · rw [blk_set_ne e, blk_set_ne e, h j hj, blk_set_ne e]
/-! ### one element is let go -/
def letL {α : Type} (l : List α) (i : Nat) : List α := l.take i ++ l.drop (i + 1)
theorem letL_len {α : Type} {l : List α} {i : Nat} (h : i < l.length) : (letL l i).length = l.length - 1 := by
  unfold letL; rw [List.length_append, List.length_take, List.length_drop]; omega
theorem letL_write {α : Type} {e : α → List Value} {es : Nat} (he : ∀ x, (e x).length = es) {l : List α} {i : Nat} (h : i < l.length) :
    writeL (fl e l) (0 + i * es) (fl e (l.drop (i + 1))) = fl e (letL l i ++ l.drop (l.length - 1)) := by
  have e1 : i * es + (l.length - (i + 1)) * es = (l.length - 1) * es := by rw [← Nat.add_mul]; congr 1; omega
  have e2 : (l.length - 1) * es ≤ l.length * es := Nat.mul_le_mul_right _ (by omega)
  rw [Nat.zero_add, writeL_eq _ _ _ (by rw [fl_len he, fl_len he, List.length_drop, e1]; exact e2), fl_take he, fl_len he, List.length_drop, e1, fl_drop he]
  unfold letL
  rw [fl_app, fl_app]
theorem letL_clear {α : Type} {e : α → List Value} {es : Nat} (he : ∀ x, (e x).length = es) {l : List α} {i : Nat} (h : i < l.length) (z : α) :
    writeL (fl e (letL l i ++ l.drop (l.length - 1))) (0 + (l.length - 1) * es) (fl e (List.replicate (l.length - (l.length - 1)) z)) = fl e (letL l i ++ [z]) := by
  have hl := letL_len h
  have e0 : l.length - (l.length - 1) = 1 := by omega
  have e1 : (letL l i ++ l.drop (l.length - 1)).length = l.length := by rw [List.length_append, hl, List.length_drop]; omega
  have e2 : (l.length - 1) * es + 1 * es = l.length * es := by rw [← Nat.add_mul]; congr 1; omega
  rw [e0, Nat.zero_add, writeL_eq _ _ _ (by rw [fl_len he, fl_len he, e1]; simp only [List.length_replicate]; omega), fl_take he, fl_len he, List.length_replicate, e2]
  rw [List.drop_eq_nil_of_le (as := fl e (letL l i ++ l.drop (l.length - 1))) (by rw [fl_len he, e1]; exact Nat.le_refl _), List.append_nil, ← fl_app]
  rw [List.take_append_of_le_length (by omega), List.take_of_length_le (by omega)]
  rfl
end Go.AW

/- Maps: making, looking up, putting in. -/
namespace Go.AW
open Go
set_option linter.unusedVariables false
set_option linter.unusedSectionVars false
set_option linter.unusedSimpArgs false
set_option linter.unusedSimpArgs false

section
variable {P : Program} {ρ : Operand → Value} {H : AHeap} {d : Option Tmp} {ty : TypeId} {pos : String} {aft : Array Edge} {g : Option (Nat × Bool)}
variable {α γ : Type} [DecidableEq α] {ke : α → Value} {ve : γ → Value}

/-- What a map's block holds. -/
def mapC (ke : α → Value) (ve : γ → Value) (m : List (α × γ)) : List (Value × Value) := m.map fun p => (ke p.1, ve p.2)
def mget (m : List (α × γ)) (k : α) : Option γ := (m.find? fun p => decide (k = p.1)).map (·.2)
theorem mget_nil (k : α) : mget ([] : List (α × γ)) k = none := rfl
theorem mget_cons (p : α × γ) (m : List (α × γ)) (k : α) : mget (p :: m) k = if k = p.1 then some p.2 else mget m k := by
  unfold mget
  by_cases h : k = p.1
  · rw [if_pos h, List.find?_cons_of_pos (by simpa using h)]; rfl
  · rw [if_neg h, List.find?_cons_of_neg (by simpa using h)]
theorem mget_none {m : List (α × γ)} {k : α} (h : mget m k = none) : ∀ p ∈ m, p.1 ≠ k := by
  unfold mget at h
  rw [Option.map_eq_none_iff, List.find?_eq_none] at h
  intro p hp e
  exact h p hp (by simpa using e.symm)
theorem mget_app (m n : List (α × γ)) (k : α) : mget (m ++ n) k = (mget m k).or (mget n k) := by
  induction m with
  | nil => rw [List.nil_append, mget_nil]; cases mget n k <;> rfl
  | cons p m ih =>
    rw [List.cons_append, mget_cons, mget_cons, ih]
    split <;> rfl

/-- A type of keys. -/
structure KeyT (P : Program) (kt : TypeId) (ke : α → Value) : Prop where
  wide : (match P.underlying kt with | some (.array _ _) | some (.struct _) => true | _ => false) = true
  eq : ∀ x y w, (Op.equal kt (ke x) (ke y)).run P w = .ok (decide (x = y)) w
  check : ∀ x b w, (Instr.checkKey b 10000 kt (ke x)).run P w = .ok () w
  plain : ∀ x, plainV (ke x) = true
  same : ∀ x, Instr.sameBits 10000 (ke x) (ke x) = true

theorem run_find {kt : TypeId} (K : KeyT P kt ke) (w : World) (k : α) : ∀ (m : List (α × γ)) (es : List MapEntry) (i : Nat), es.length = m.length → (∀ (j : Nat) p e, m[j]? = some p → es[j]? = some e → e.key = ke p.1 ∧ e.val = ve p.2) →
    ∃ r, (Instr.findAsking kt (ke k) es i).run P w = .ok r w ∧ ((r = none ∧ mget m k = none) ∨ ∃ j v, r = some (j, ve v) ∧ mget m k = some v) := by
  intro m
  induction m with
  | nil =>
    intro es i hl _
    obtain rfl := List.eq_nil_of_length_eq_zero hl
    exact ⟨none, by simp [Instr.findAsking, Sem.run_pure], .inl ⟨rfl, rfl⟩⟩
  | cons p m ih =>
    intro es i hl hall
    cases es with
    | nil => cases hl
    | cons e es =>
      obtain ⟨h1, h2⟩ := hall 0 p e rfl rfl
      obtain ⟨r, hr, hc⟩ := ih es (i + 1) (by simpa using hl) fun j q f hq hf => hall (j + 1) q f (by simpa using hq) (by simpa using hf)
      unfold Instr.findAsking
      simp only [Sem.run_bind, h1, K.eq, Result.andThen_ok]
      rw [mget_cons]
      by_cases hk : k = p.1
      · refine ⟨some (i, ve p.2), ?_, .inr ⟨i, p.2, rfl, by rw [if_pos hk]⟩⟩
        simp [hk, h2, Sem.run_pure]
      · refine ⟨r, ?_, ?_⟩
        · simp [hk, hr]
        · rw [if_neg hk]; exact hc

theorem run_getObj_map' {w : World} {r : Nat} {es : Array MapEntry} {clock : Nat} (hb : w.heap[r]? = some (.map es clock)) : (getObj r).run P w = .ok (.map es clock) w := by simp [getObj, Sem.run, hb]

theorem VR.map_inv {β : Bt} {b : Nat} {v : Value} (h : VR β (.map (some b)) v) : ∃ r t, v = .map (some r) ∧ β b = some t ∧ ∀ B o S es own, t = .live B o S es own → r = B := by
  cases h with | map t h h' => exact ⟨_, t, rfl, h, h'⟩

theorem HRel.mapAt {β : Bt} {w : World} (h : HRel β H w) {b : Nat} {es : List (Value × Value)} {v : Value} (hv : VR β (.map (some b)) v) (hk : H.blk b = some (.map es)) :
    ∃ B o S z es' clock, v = .map (some B) ∧ β b = some (.live B o S z true) ∧ w.heap[B]? = some (.map es' clock) ∧ es'.size = es.length ∧ ∀ (i : Nat) p e, es[i]? = some p → es'[i]? = some e → VR β p.1 e.key ∧ VR β p.2 e.val := by
  obtain ⟨r, t, rfl, hb, hr⟩ := hv.map_inv
  cases t with
  | stale => have := h.stale b hb; rw [hk] at this; cases this
  | live B o S z own =>
    obtain ⟨k, hk', hbr⟩ := h.rel b B o S z own hb
    rw [hk] at hk'; cases hk'
    obtain ⟨es', clock, h1, h2, h3, h4⟩ := hbr
    subst h3
    exact ⟨B, o, S, z, es', clock, by rw [hr B o S z true rfl], hb, h1, h2, h4⟩

/-- The entries, as they lie. -/
theorem entries_of {β : Bt} (hkp : ∀ x, plainV (ke x) = true) (hvp : ∀ x, plainV (ve x) = true) {m : List (α × γ)} {es' : Array MapEntry} (hs : es'.size = (mapC ke ve m).length)
    (h : ∀ (i : Nat) p e, (mapC ke ve m)[i]? = some p → es'[i]? = some e → VR β p.1 e.key ∧ VR β p.2 e.val) :
    es'.toList.length = m.length ∧ ∀ (j : Nat) p e, m[j]? = some p → es'.toList[j]? = some e → e.key = ke p.1 ∧ e.val = ve p.2 := by
  refine ⟨by simpa [mapC] using hs, fun j p e hp he => ?_⟩
  have := h j (ke p.1, ve p.2) e (by simp [mapC, hp]) (by simpa using he)
  exact ⟨VR.plain_inv (hkp _) this.1, VR.plain_inv (hvp _) this.2⟩

theorem ao_lookup {t kt et : TypeId} {x y : Operand} {b : Nat} {m : List (α × γ)} {k : α} {z u : Value} {ok : Bool} (hu : P.underlying t = some (.map kt et)) (K : KeyT P kt ke) (hvp : ∀ x, plainV (ve x) = true)
    (hz : ∀ w, (zeroValue et).run P w = .ok z w) (hzp : plainV z = true) (hx : ρ x = .map (some b)) (hy : ρ y = ke k) (hk : H.blk b = some (.map (mapC ke ve m)))
    (hr : (mget m k = none ∧ u = z ∧ ok = false) ∨ ∃ v, mget m k = some v ∧ u = ve v ∧ ok = true) (c : Bool) :
    AOd P ⟨d, .lookup t x y c, ty, pos, aft, g⟩ ρ H (if c then .tuple #[u, .bool ok] else u) H :=
  AO.pure fun β ρ' w hv hh => by
    have q1 := hv x (by simp [Op.operands]); rw [hx] at q1
    have q2 := hv y (by simp [Op.operands]); rw [hy] at q2
    obtain ⟨B, o, S, z', es', clock, e1, hb, hB, hs, hall⟩ := hh.mapAt q1 hk
    obtain ⟨hl, hent⟩ := entries_of K.plain hvp hs hall
    have e2 := VR.plain_inv (K.plain k) q2
    obtain ⟨r, hrun, hc⟩ := run_find (ve := ve) K w k m es'.toList 0 hl hent
    have up : plainV u = true := by rcases hr with ⟨_, rfl, _⟩ | ⟨v, _, rfl, _⟩ <;> first | exact hzp | exact hvp _
    have hval : (Instr.lookup t (ρ' x) (ρ' y) c).run P w = .ok (if c then .tuple #[u, .bool ok] else u) w := by
      rw [e1, e2]
      unfold Instr.lookup
      simp only [Sem.run_bind, run_underlying hu, Result.andThen_ok, run_getObj_map' hB, Sem.run_pure, K.check, run_findKey_eq w K.wide, hrun]
      rcases hc with ⟨rfl, h0⟩ | ⟨j, v, rfl, h0⟩
      · rcases hr with ⟨_, rfl, rfl⟩ | ⟨v, h1, _⟩
        · simp [hz, Sem.run_bind, Sem.run_pure]
        · rw [h0] at h1; cases h1
      · rcases hr with ⟨h1, _⟩ | ⟨v', h1, rfl, rfl⟩
        · rw [h0] at h1; cases h1
        · rw [h0] at h1; cases h1
          simp [Sem.run_pure]
    refine ⟨if c then .tuple #[u, .bool ok] else u, ?_, ?_⟩
    · simp [execOp, go_sem, hval]
    · cases c
      · exact VR.plain β up
      · refine .tuple rfl fun i a a' ha ha' => ?_
        match i with
        | 0 => simp at ha ha'; subst ha ha'; exact VR.plain β up
        | 1 => simp at ha ha'; subst ha ha'; exact .bool _
        | i + 2 => simp at ha

theorem ao_makeMap {t : TypeId} : AOd P ⟨d, .makeMap t none, ty, pos, aft, g⟩ ρ H (.map (some H.next)) (H.push (.map [])) := by
  intro β ρ' w hv hh
  have hbr : ∀ β' : Bt, (∀ b u, β b = some u → β' b = some u ∨ β' b = some .stale) → BR β' (w.alloc (.map #[] 0)) w.heap.size 0 0 0 true (.map []) := by
    intro β' _
    exact ⟨#[], 0, by show (w.heap.push _)[w.heap.size]? = _; simp, rfl, rfl, fun i p e hp => by simp at hp⟩
  obtain ⟨h1, h2⟩ := hh.alloc hbr
  refine gives_value (v := .map (some w.heap.size)) (w' := w.alloc (.map #[] 0)) ?_ ⟨_, _, _, ⟨rfl, rfl⟩, .map _ (Bt.set_same _ _ _) (fun B o S es own e => by cases e; rfl), h1, h2, by rw [next_push]; omega⟩
  simp [execOp, go_sem, Instr.makeMap]

theorem ao_mapPut {t kt et : TypeId} {x y u : Operand} {b : Nat} {m : List (α × γ)} {k : α} {v : γ} (hu : P.underlying t = some (.map kt et)) (K : KeyT P kt ke) (hvp : ∀ x, plainV (ve x) = true)
    (hx : ρ x = .map (some b)) (hy : ρ y = ke k) (hv0 : ρ u = ve v) (hk : H.blk b = some (.map (mapC ke ve m))) (hno : mget m k = none) :
    AOd P ⟨d, .mapUpdate t x y u, ty, pos, aft, g⟩ ρ H undef (H.set b (.map (mapC ke ve (m ++ [(k, v)])))) := by
  intro β ρ' w hv hh
  have q1 := hv x (by simp [Op.operands]); rw [hx] at q1
  have q2 := hv y (by simp [Op.operands]); rw [hy] at q2
  have q3 := hv u (by simp [Op.operands]); rw [hv0] at q3
  obtain ⟨B, o, S, z', es', clock, e1, hb, hB, hs, hall⟩ := hh.mapAt q1 hk
  obtain ⟨hl, hent⟩ := entries_of K.plain hvp hs hall
  have e2 := VR.plain_inv (K.plain k) q2
  have e3 := VR.plain_inv (hvp v) q3
  obtain ⟨r, hrun, hc⟩ := run_find (ve := ve) K w k m es'.toList 0 hl hent
  have hr0 : r = none := by
    rcases hc with ⟨h, _⟩ | ⟨_, _, _, h⟩
    · exact h
    · rw [hno] at h; cases h
  subst hr0
  let ob : Obj := .map (es'.push { key := ke k, val := ve v, born := clock }) (clock + 1)
  let w' : World := { w with heap := w.heap.set! B ob }
  obtain ⟨hBlt, hBv⟩ := Array.getElem?_eq_some_iff.1 hB
  have hset : ∀ j, w'.heap[j]? = if j = B then some ob else w.heap[j]? := by
    intro j
    show (w.heap.set! B ob)[j]? = _
    by_cases e : B = j
    · subst e; rw [if_pos rfl]; simp [hBlt]
    · rw [if_neg (Ne.symm e), Array.set!_eq_setIfInBounds, Array.getElem?_setIfInBounds_ne e]
  have hval : (Instr.mapUpdate t (ρ' x) (ρ' y) (ρ' u)).run P w = .ok () w' := by
    rw [e1, e2, e3]
    unfold Instr.mapUpdate
    simp only [Sem.run_bind, run_underlying hu, Result.andThen_ok, run_getObj_map' hB, K.check, run_findKey_eq w K.wide, hrun]
    simp [setObj, Sem.run, hBlt, hBv, w', ob]
  refine gives_skip (w' := w') (by simp [execOp, go_sem, hval]) ⟨undef, _, β, ⟨rfl, rfl⟩, VR.undef β, ⟨?_, ?_, hh.inj, hh.dom, hh.glob.of (fun g _ hno => by rw [hset, if_neg]; rintro rfl; exact hno b _ _ _ hb) fun b g o S es h => .inl ⟨b, o, S, es, h⟩⟩, ⟨fun _ _ h => .inl h, fun _ _ h => h, fun b B o S es h => .inl ⟨b, o, S, es, h⟩, fun _ _ _ _ _ h => h, rfl, rfl, rfl, by simp [w'], fun B' hB' hnob => ?_⟩, Nat.le_refl _⟩
  · intro b1 B1 o1 S1 es1 own1 hb1
    by_cases eb : b1 = b
    · subst eb
      rw [hb] at hb1; cases hb1
      refine ⟨_, blk_set_same hk, es'.push { key := ke k, val := ve v, born := clock }, clock + 1, by rw [hset, if_pos rfl], by simp [mapC] at hs ⊢; omega, rfl, ?_⟩
      intro i p e hp he
      simp only [mapC, List.map_append, List.map_cons, List.map_nil] at hp
      rw [List.getElem?_append] at hp
      rw [Array.getElem?_push] at he
      split at hp
      · rename_i hlt
        have hlt' : i < (mapC ke ve m).length := hlt
        rw [if_neg (by omega)] at he
        exact hall i p e hp he
      · rename_i hge
        have hge' : ¬ i < (mapC ke ve m).length := hge
        by_cases hi : i = es'.size
        · rw [if_pos hi] at he; cases he
          have hlm : (List.map (fun p => (ke p.1, ve p.2)) m).length = es'.size := by rw [hs]; rfl
          rw [hlm, hi, Nat.sub_self] at hp
          simp at hp; subst hp
          exact ⟨VR.plain β (K.plain k), VR.plain β (hvp v)⟩
        · rw [if_neg hi] at he
          have := (Array.getElem?_eq_some_iff.1 he).1
          omega
    · obtain ⟨k1, hk1, hr1⟩ := hh.rel b1 B1 o1 S1 es1 own1 hb1
      refine ⟨k1, by rw [blk_set_ne eb]; exact hk1, hr1.mono (fun _ _ h => .inl h) ?_⟩
      rw [hset, if_neg]
      intro eB
      subst eB
      exact eb (hh.inj b1 b B1 o1 S1 es1 own1 o S z' true hb1 hb (.inr rfl))
  · intro b1 hb1
    have eb : b1 ≠ b := by intro e; subst e; rw [hb] at hb1; cases hb1
    rw [blk_set_ne eb]; exact hh.stale b1 hb1
  · rw [hset, if_neg]
    intro eB
    subst eB
    exact hnob b o S z' hb
end
end Go.AW
