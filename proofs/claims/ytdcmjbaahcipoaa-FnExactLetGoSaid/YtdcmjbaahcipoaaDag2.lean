/- Operations that look at no memory may come first. -/
import Derived.Test.YtdcmjbaahcipoaaDag
namespace Go.AW
open Go
set_option linter.unusedVariables false
set_option linter.unusedSectionVars false
/-- The same in every world. -/
def AOp (P : Program) (o : Oper) (ρ : Operand → Value) (H : AHeap) (v : Value) : Prop :=
  ∀ (β : Bt) (ρ' : Operand → Value) (w : World), (∀ x ∈ o.op.operands, VR β (ρ x) (ρ' x)) → HRel β H w → ∃ v', (∀ w', (execOp ρ' o).run P w' = .ok (.value v') w') ∧ VR β v v'
section
variable {P : Program} {ops : Array Oper} {Q : Exit → AFr → AHeap → Prop} {fr : AFr} {H H1 : AHeap} {fuel : Nat} {listed : Array Bool}
theorem aa_take {listed' : Array Bool} {i : Nat} {o : Oper} {v : Value} (ho : ops[i]? = some o) (hs : Region.noSelect ops = true) (hf : Region.free .any ops listed i = true) (hr : (Region.ready .any ops listed).contains i = true)
    (hg : o.guard = none) (hx : o.op.operands.toList.all okX = true) (hd : o.dst.all (fun d => Nat.blt d fr.n) = true) (hl : listed.setIfInBounds i true = listed') (hp : ∀ c fr H, ¬ Q (.panic c) fr H) (hA : AOp P o fr.ev H v)
    (k : AA P ops Q fuel listed' (fr.putO o.dst v) H) : AA P ops Q (fuel + 1) listed fr H := by
  subst hl
  intro n β0 w0 β a w hst hn hfr hh
  have hxs : ∀ x ∈ o.op.operands, VR β (fr.ev x) (a.eval x) := fun x hm => hfr.ev (List.all_eq_true.1 hx x (by simpa using hm))
  obtain ⟨v', hrun, hv⟩ := hA β a.eval w hxs hh
  refine wpAny_take (v := v') ho hs hf hr (fun c a w ⟨fr', H', β', q, _⟩ => absurd q (hp c fr' H')) (.inl ⟨by unfold Region.wanted; rw [hg], hrun⟩) ?_
  have hf' : FRel β (fr.putO o.dst v) (a.put o.dst v') := by
    cases hdst : o.dst with
    | none => exact hfr
    | some d =>
      rw [hdst] at hd
      exact hfr.put (by simpa [Nat.blt_eq] using hd) hv
  exact k n β0 w0 β _ w hst hn hf' hh
end
section
variable {P : Program} {ρ : Operand → Value} {H : AHeap} {d : Option Tmp} {ty : TypeId} {pos : String} {aft : Array Edge} {g : Option (Nat × Bool)}
theorem AOp.val {o : Oper} {v v' : Value} (h : AOp P o ρ H v) (e : v = v') : AOp P o ρ H v' := e ▸ h
theorem apm_mv {x : Operand} {v : Value} (hx : ρ x = v) : AOp P ⟨d, .move x, ty, pos, aft, g⟩ ρ H v := by
  subst hx
  exact fun β ρ' w hx _ => ⟨ρ' x, fun w' => by simp [execOp, Pure.pure], hx x (by simp [Op.operands])⟩
theorem apm_as {x : Operand} {v : Value} (hx : ρ x = v) : AOp P ⟨d, .assign x, ty, pos, aft, g⟩ ρ H v := by
  subst hx
  exact fun β ρ' w hx _ => ⟨ρ' x, fun w' => by simp [execOp, Pure.pure], hx x (by simp [Op.operands])⟩
theorem apm_add {xt yt : TypeId} {x y : Operand} {k : IntKind} {m n : Int} (hx : ρ x = .int k m) (hy : ρ y = .int k n) : AOp P ⟨d, .binOp .add xt x y yt, ty, pos, aft, g⟩ ρ H (.int k (k.wrap (m + n))) :=
  fun β ρ' w h _ => by
    obtain ⟨h1, h2⟩ := int2 hx hy h
    exact ⟨_, fun w' => by simp [execOp, h1, h2, go_sem, binOp, eqGuard, Op.intArith], .int _ _⟩
theorem apm_sub {xt yt : TypeId} {x y : Operand} {k : IntKind} {m n : Int} (hx : ρ x = .int k m) (hy : ρ y = .int k n) : AOp P ⟨d, .binOp .sub xt x y yt, ty, pos, aft, g⟩ ρ H (.int k (k.wrap (m - n))) :=
  fun β ρ' w h _ => by
    obtain ⟨h1, h2⟩ := int2 hx hy h
    exact ⟨_, fun w' => by simp [execOp, h1, h2, go_sem, binOp, eqGuard, Op.intArith], .int _ _⟩
theorem apm_fieldAddr {s : TypeId} {x : Operand} {f b o n : Nat} (hf : fieldOff P s f = some n) (hx : ρ x = .pointer (some ⟨b, o, none⟩)) :
    AOp P ⟨d, .fieldAddr s x f, ty, pos, aft, g⟩ ρ H (.pointer (some ⟨b, o + n, none⟩)) :=
  fun β ρ' w h hh => by
    have h1 := h x (by simp [Op.operands]); rw [hx] at h1
    obtain ⟨a', ha, hA⟩ := h1.ptr_inv
    unfold fieldOff at hf
    split at hf
    · rename_i fields hu
      split at hf
      · rename_i fd hfd
        split at hf
        · rename_i i hi
          split at hf
          · cases hf
          · rename_i h0
            cases hf
            refine ⟨.pointer (some (a'.add fd.offset)), fun w' => ?_, .ptr (hA.add _)⟩
            simp [execOp, ha, go_sem, Instr.fieldAt, Instr.sureAddr, underlying, hu, hfd, fieldPlace, sizeOf, typeInfo, hi, h0]
        · cases hf
      · cases hf
    · cases hf
theorem apm_sliceHi {t e : TypeId} {x hi : Operand} {b o len c n h : Nat} {k2 : IntKind} {j : Int} {k : ABlk} (hu : P.underlying t = some (.slice e)) (hn : ∀ w, (sizeOf e).run P w = .ok n w)
    (hx : ρ x = .slice (some ⟨b, o, none⟩) len c) (hhi : ρ hi = .int k2 j) (hj' : j = (h : Int)) (hk : H.blk b = some k) (hf : k.fits n) (h2 : h ≤ len) :
    AOp P ⟨d, .slice t x none (some hi) none, ty, pos, aft, g⟩ ρ H (.slice (some ⟨b, o, none⟩) h (h + 1)) :=
  fun β ρ' w hv hh => by
    have q1 := hv x (by simp [Op.operands]); rw [hx] at q1
    have q3 := hv hi (by simp [Op.operands]); rw [hhi] at q3
    obtain ⟨a', c', ha, hA⟩ := q1.slice_inv
    have key := hA.part hh hk hf (Nat.zero_le h) h2 (c2 := h - 0 + 1) (fun e => by omega)
    have e0 : (⟨b, o + 0 * n, none⟩ : Addr) = ⟨b, o, none⟩ := by simp
    rw [e0] at key
    simp only [Nat.sub_zero] at key
    refine ⟨_, fun w' => ?_, key⟩
    have := hA.2.2.1
    subst hj'
    simp [execOp, ha, q3.int_inv, go_sem, Instr.sliceAt, Instr.slice, underlying, hu, hn, Instr.sliceBounds, Instr.sliceBound, asIntOf, show h ≤ c' by omega]
theorem apm_sliceLo {t e : TypeId} {x lo : Operand} {b o len c n l : Nat} {k1 : IntKind} {i : Int} {k : ABlk} (hu : P.underlying t = some (.slice e)) (hn : ∀ w, (sizeOf e).run P w = .ok n w)
    (hx : ρ x = .slice (some ⟨b, o, none⟩) len c) (hlo : ρ lo = .int k1 i) (hi' : i = (l : Int)) (hk : H.blk b = some k) (hf : k.fits n) (h1 : l ≤ len) :
    AOp P ⟨d, .slice t x (some lo) none none, ty, pos, aft, g⟩ ρ H (.slice (some ⟨b, o + l * n, none⟩) (len - l) (len - l + 1)) :=
  fun β ρ' w hv hh => by
    have q1 := hv x (by simp [Op.operands]); rw [hx] at q1
    have q2 := hv lo (by simp [Op.operands]); rw [hlo] at q2
    obtain ⟨a', c', ha, hA⟩ := q1.slice_inv
    refine ⟨_, fun w' => ?_, hA.part hh hk hf h1 (Nat.le_refl _) (c2 := len - l + 1) (fun e => by omega)⟩
    have := hA.2.2.1
    subst hi'
    simp [execOp, ha, q2.int_inv, go_sem, Instr.sliceAt, Instr.slice, underlying, hu, hn, Instr.sliceBounds, Instr.sliceBound, asIntOf, h1]
theorem apm_build {t : TypeId} {z : Value} {parts : Array (Nat × Operand)} {ps : List (Nat × Value)} {A : Array Value} {fields : Array Field} (hz : ∀ w, (zeroValue t).run P w = .ok z w) (hzp : plainV z = true) (hu : P.underlying t = some (.struct fields))
    (hi : (fields.toList.all fun f => (P.info? f.type).isSome) = true)
    (hps : parts.toList.map (fun p => (p.1, ρ p.2)) = ps) (hA : buildOf P t z ps = some A) :
    AOp P ⟨d, .build t parts, ty, pos, aft, g⟩ ρ H (.agg A) :=
  fun β ρ' w h hh => by
    have hrel := parts_rel (ps := parts) (ρ := ρ) (ρ' := ρ') (β := β) (by simpa [Op.operands] using h)
    have hps' : (parts.map fun (i, x) => (i, ρ x)).toList = ps := by rw [Array.toList_map]; exact hps
    rw [hps'] at hrel
    unfold buildOf at hA
    rw [hu] at hA
    simp only at hA
    obtain ⟨B, hB, hAB⟩ := fill_rel (β := β) _ ps (parts.map fun (i, x) => (i, ρ' x)).toList _ _ A (vrl_plain hzp) (by rw [← hps]; simp) hrel hA
    refine ⟨.agg B, fun w' => ?_, .agg (by have := hAB.1; simpa using this) fun i x y hx hy => hAB.2 i x y (by simpa using hx) (by simpa using hy)⟩
    have hex : (execOp ρ' ⟨d, .build t parts, ty, pos, aft, g⟩).run P w' = ((Instr.build t (parts.map fun (i, x) => (i, ρ' x))).run P w').andThen fun v w => .ok (.value v) w := by
      unfold execOp
      rw [Sem.run_bind]
      rfl
    have hpl := run_places (P := P) (fields := fields) (w := w') fun f hf => by
      have := List.all_eq_true.1 hi f hf
      exact Option.isSome_iff_exists.1 this
    have : (Instr.build t (parts.map fun (i, x) => (i, ρ' x))).run P w' = .ok (.agg B) w' := by
      unfold Instr.build
      rw [Sem.run_bind, hz]
      simp only [Result.andThen_ok]
      rw [Sem.run_bind, run_underlying hu w']
      simp only [Result.andThen_ok]
      rw [Sem.run_bind, hpl]
      simp only [Result.andThen_ok]
      rw [hB]; rfl
    rw [hex, this]; rfl
end
end Go.AW
